/- Octet: the law OctetBits, walked. -/
import Derived.Test.YtomhhaaogenedaaOct2
namespace Go.Proofs.Ytomhhaaogenedaa.Oct
open Go.RowKit Go.Proofs.Ytomhhaaogenedaa.POctetPuts Go.Proofs.YtomhhaaogenedaaW.PrintWords Go.Proofs.YtomhhaaogenedaaW.PrintLast Go.Proofs.YtomhhaaogenedaaW.PrintMore Go.Proofs.Ytomhhaaogenedaa.Mine
set_option linter.unusedVariables false
set_option linter.unusedSimpArgs false
attribute [local go_sem] max2_int min2_int max_two min_two max_three min_three max_four min_four

/-! ### countwheelref01_Bit: function 21 -/
def countwheelref01_Bit.l0 : Nat → Int → Int → Int → Option (Bool)
  | 0, _, _, _ => none
  | k + 1, x0, x1, x5 => if x5 < x1 then (countwheelref01_Bit.l0 k (IntKind.u64.wrap (Int.tdiv x0 2)) x1 (wrap64 (x5 + 1))) else (some ((Int.tmod x0 2) == 1))
def countwheelref01_Bit.f (k : Nat) (a0 : Int) (a1 : Int) : Option (Bool) := countwheelref01_Bit.l0 k a0 a1 0
theorem countwheelref01_Bit.mono_l : ∀ k, (∀ y0 y1 y2, LeO (countwheelref01_Bit.l0 k y0 y1 y2) (countwheelref01_Bit.l0 (k + 1) y0 y1 y2))
  | 0 => fun _ _ _ r h => by simp [countwheelref01_Bit.l0] at h
  | k + 1 => by
    have ih0 := countwheelref01_Bit.mono_l k
    · intro y0 y1 y2
      unfold countwheelref01_Bit.l0
      repeat' first
      | (with_reducible exact ih0 _ _ _)
      | (with_reducible exact LeO.refl _)
      | (with_reducible exact LeO.none _)
      | (with_reducible refine LeO.ite ?_ ?_)
      | (with_reducible refine LeO.bind ?_ (fun _ => ?_))
      | exact ih0 _ _ _
      | exact LeO.none _
      | refine LeO.ite ?_ ?_
      | refine LeO.bind ?_ (fun _ => ?_)
theorem countwheelref01_Bit.mono : ∀ a0 a1 k, LeO (countwheelref01_Bit.f k a0 a1) (countwheelref01_Bit.f (k + 1) a0 a1) := by
  intro a0 a1 k
  have ih0 := countwheelref01_Bit.mono_l k
  unfold countwheelref01_Bit.f
  repeat' first
      | (with_reducible exact ih0 _ _ _)
      | (with_reducible exact LeO.refl _)
      | (with_reducible exact LeO.none _)
      | (with_reducible refine LeO.ite ?_ ?_)
      | (with_reducible refine LeO.bind ?_ (fun _ => ?_))
      | exact ih0 _ _ _
      | exact LeO.none _
      | refine LeO.ite ?_ ?_
      | refine LeO.bind ?_ (fun _ => ?_)
set_option maxHeartbeats 8000000 in
set_option maxRecDepth 100000 in
theorem countwheelref01_Bit.calls (k : Nat) (a0 : Int) (a1 : Int) (r : Bool) (w : World) (h : countwheelref01_Bit.f k a0 a1 = some r) :
    Calls Try.prog 21 #[.int .u64 a0, .int .i64 a1] w fun e w' => e = .returned (.bool r) ∧ Drawn0 w w' := by
  have H : (countwheelref01_Bit.l0 k a0 a1 0) = some r := h
  clear h
  have H' := Aside0.mk H
  clear H
  go_enter Try.func21, Try.ntmps21
  go_wp2
  go_loopg [0, 5] k (fun kq v0 v5 w' => ∃ (x0_1 : Int) (x5_1 : Int), v0 = .int .u64 x0_1 ∧ v5 = .int .i64 x5_1 ∧ Aside0 (countwheelref01_Bit.l0 kq x0_1 a1 x5_1 = some r) ∧ Aside0 (kq ≤ k) ∧ Drawn0 w w')
  case atStart => exact ⟨(a0), (0), (by first | rfl | (simp; done) | (simp [*]; done)), (by first | rfl | (simp; done) | (simp [*]; done)), H', ⟨Nat.le_refl _⟩, by repeat (first | exact Drawn0.refl _ | apply Drawn0.step)⟩
  case round =>
    clear H'
    try clear c2
    try clear p2
    obtain ⟨x0_1, x5_1, rfl, rfl, HA, HK1, ⟨m1, rfl⟩⟩ := hrel
    cases gk with
    | zero => exact absurd HA.out (by simp [countwheelref01_Bit.l0])
    | succ k1 =>
      have H := HA.out
      clear HA
      simp only [countwheelref01_Bit.l0] at H
      by_cases c3 : x5_1 < a1
      · rw [if_pos c3] at H
        have c3b0 : decide (x5_1 < a1) = true := decide_eq_true c3
        clear c3
        have H' := Aside0.mk H
        clear H
        go_wp2
        go_roundg k1
        case measure => have := HK1.out; omega
        case rel => exact ⟨(IntKind.u64.wrap (Int.tdiv x0_1 2)), (wrap64 (x5_1 + 1)), (by first | rfl | (simp; done) | (simp [*]; done)), (by first | rfl | (simp; done) | (simp [*]; done)), H', ⟨by have := HK1.out; omega⟩, by repeat (first | exact Drawn0.refl _ | apply Drawn0.step)⟩
      · rw [if_neg c3] at H
        have c3b0 : decide (x5_1 < a1) = false := decide_eq_false c3
        clear c3
        obtain rfl := Option.some.inj H
        go_wp2
        go_ret
        exact ⟨by first | rfl | (simp; done) | (simp [*]; done), by repeat (first | exact Drawn0.refl _ | apply Drawn0.step)⟩

/-! ### octet_Bit: function 22 -/
def octet_Bit.f (a0 : Int) (a1 : Int) : Option (Bool) := if a1 ≥ 0 then (if a1 < 64 then (if 0 ≤ a1 then (some ((Go.bits .and .u64 (shr .u64 a0 a1) 1) == 1)) else (none)) else (some false)) else (some false)
set_option maxHeartbeats 8000000 in
set_option maxRecDepth 100000 in
theorem octet_Bit.calls (a0 : Int) (a1 : Int) (r : Bool) (w : World) (h : octet_Bit.f a0 a1 = some r) :
    Calls Try.prog 22 #[.int .u64 a0, .int .i64 a1] w fun e w' => e = .returned (.bool r) ∧ Drawn0 w w' := by
  have H : (if a1 ≥ 0 then (if a1 < 64 then (if 0 ≤ a1 then (some ((Go.bits .and .u64 (shr .u64 a0 a1) 1) == 1)) else (none)) else (some false)) else (some false)) = some r := h
  clear h
  by_cases c3 : a1 ≥ 0
  · rw [if_pos c3] at H
    have c3b0 : decide (0 ≤ a1) = true := decide_eq_true c3
    clear c3
    by_cases c4 : a1 < 64
    · rw [if_pos c4] at H
      have c4b0 : decide (a1 < 64) = true := decide_eq_true c4
      clear c4
      by_cases c5 : 0 ≤ a1
      · rw [if_pos c5] at H
        have c5b0 := eq_true c5
        have c5b1 : decide (0 ≤ a1) = true := decide_eq_true c5
        clear c5
        obtain ⟨ji6, hji6⟩ : ∃ j_ : Int, (shr .u64 a0 a1) = j_ := ⟨_, rfl⟩
        replace H : (some ((Go.bits .and .u64 (ji6) 1) == 1)) = some r := by first | (rw [hji6] at H; exact H) | (simp only [hji6] at H ⊢; exact H)
        have hji6_ : (a0 / 2 ^ min a1.toNat 64) = ji6 := hji6
        have hji6z : a1 ≤ 64 → (a0 / 2 ^ a1.toNat) = ji6 := shr_small hji6
        obtain rfl := Option.some.inj H
        go_enter Try.func22, Try.ntmps22
        go_wp2
        go_ret
        exact ⟨by first | rfl | (simp; done) | (simp only [← hji6] <;> (first | rfl | simp)) | (simp [*]; done), by repeat (first | exact Drawn0.refl _ | apply Drawn0.step)⟩
      · rw [if_neg c5] at H
        exact absurd H (by simp)
    · rw [if_neg c4] at H
      have c4b0 : decide (a1 < 64) = false := decide_eq_false c4
      clear c4
      obtain rfl := Option.some.inj H
      go_enter Try.func22, Try.ntmps22
      go_wp2
      go_ret
      exact ⟨by first | rfl | (simp; done) | (simp [*]; done), by repeat (first | exact Drawn0.refl _ | apply Drawn0.step)⟩
  · rw [if_neg c3] at H
    have c3b0 : decide (0 ≤ a1) = false := decide_eq_false c3
    clear c3
    obtain rfl := Option.some.inj H
    go_enter Try.func22, Try.ntmps22
    go_wp2
    go_ret
    exact ⟨by first | rfl | (simp; done) | (simp [*]; done), by repeat (first | exact Drawn0.refl _ | apply Drawn0.step)⟩

/-! ### octet_Count: function 23 -/
def octet_Count.l0 : Nat → Int → Int → Option (Int)
  | 0, _, _ => none
  | k + 1, x0, x3 => if x0 = 0 then (some x3) else (octet_Count.l0 k (Go.bits .and .u64 x0 (IntKind.u64.wrap (x0 - 1))) (wrap64 (x3 + 1)))
def octet_Count.f (k : Nat) (a0 : Int) : Option (Int) := octet_Count.l0 k a0 0
theorem octet_Count.mono_l : ∀ k, (∀ y0 y1, LeO (octet_Count.l0 k y0 y1) (octet_Count.l0 (k + 1) y0 y1))
  | 0 => fun _ _ r h => by simp [octet_Count.l0] at h
  | k + 1 => by
    have ih0 := octet_Count.mono_l k
    · intro y0 y1
      unfold octet_Count.l0
      repeat' first
      | (with_reducible exact ih0 _ _)
      | (with_reducible exact LeO.refl _)
      | (with_reducible exact LeO.none _)
      | (with_reducible refine LeO.ite ?_ ?_)
      | (with_reducible refine LeO.bind ?_ (fun _ => ?_))
      | exact ih0 _ _
      | exact LeO.none _
      | refine LeO.ite ?_ ?_
      | refine LeO.bind ?_ (fun _ => ?_)
theorem octet_Count.mono : ∀ a0 k, LeO (octet_Count.f k a0) (octet_Count.f (k + 1) a0) := by
  intro a0 k
  have ih0 := octet_Count.mono_l k
  unfold octet_Count.f
  repeat' first
      | (with_reducible exact ih0 _ _)
      | (with_reducible exact LeO.refl _)
      | (with_reducible exact LeO.none _)
      | (with_reducible refine LeO.ite ?_ ?_)
      | (with_reducible refine LeO.bind ?_ (fun _ => ?_))
      | exact ih0 _ _
      | exact LeO.none _
      | refine LeO.ite ?_ ?_
      | refine LeO.bind ?_ (fun _ => ?_)
set_option maxHeartbeats 8000000 in
set_option maxRecDepth 100000 in
theorem octet_Count.calls (k : Nat) (a0 : Int) (r : Int) (w : World) (h : octet_Count.f k a0 = some r) :
    Calls Try.prog 23 #[.int .u64 a0] w fun e w' => e = .returned (.int .i64 r) ∧ Drawn0 w w' := by
  have H : (octet_Count.l0 k a0 0) = some r := h
  clear h
  have H' := Aside0.mk H
  clear H
  go_enter Try.func23, Try.ntmps23
  go_wp2
  go_loopg [0, 3] k (fun kq v0 v3 w' => ∃ (x0_1 : Int) (x3_1 : Int), v0 = .int .u64 x0_1 ∧ v3 = .int .i64 x3_1 ∧ Aside0 (octet_Count.l0 kq x0_1 x3_1 = some r) ∧ Aside0 (kq ≤ k) ∧ Drawn0 w w')
  case atStart => exact ⟨(a0), (0), (by first | rfl | (simp; done) | (simp [*]; done)), (by first | rfl | (simp; done) | (simp [*]; done)), H', ⟨Nat.le_refl _⟩, by repeat (first | exact Drawn0.refl _ | apply Drawn0.step)⟩
  case round =>
    clear H'
    obtain ⟨x0_1, x3_1, rfl, rfl, HA, HK1, ⟨m1, rfl⟩⟩ := hrel
    cases gk with
    | zero => exact absurd HA.out (by simp [octet_Count.l0])
    | succ k1 =>
      have H := HA.out
      clear HA
      simp only [octet_Count.l0] at H
      by_cases c2 : x0_1 = 0
      · rw [if_pos c2] at H
        have c2b0 : (x0_1 == 0) = true := beq_iff_eq.mpr c2
        have c2b1 : (x0_1 != 0) = false := bne_eq_false_iff_eq.mpr c2
        clear c2
        obtain rfl := Option.some.inj H
        go_wp2
        go_ret
        exact ⟨by first | rfl | (simp; done) | (simp [*]; done), by repeat (first | exact Drawn0.refl _ | apply Drawn0.step)⟩
      · rw [if_neg c2] at H
        have c2b0 : (x0_1 == 0) = false := beq_eq_false_iff_ne.mpr c2
        have c2b1 : (x0_1 != 0) = true := bne_iff_ne.mpr c2
        have H' := Aside0.mk H
        clear H
        go_wp2
        go_roundg k1
        case measure => have := HK1.out; omega
        case rel => exact ⟨(Go.bits .and .u64 x0_1 (IntKind.u64.wrap (x0_1 - 1))), (wrap64 (x3_1 + 1)), (by first | rfl | (simp; done) | (simp [*]; done)), (by first | rfl | (simp; done) | (simp [*]; done)), H', ⟨by have := HK1.out; omega⟩, by repeat (first | exact Drawn0.refl _ | apply Drawn0.step)⟩

/-! ### countwheelref01_Count: function 24 -/
def countwheelref01_Count.l0 : Nat → Int → Int → Option (Int)
  | 0, _, _ => none
  | k + 1, x0, x3 => if x0 > 0 then (countwheelref01_Count.l0 k (IntKind.u64.wrap (Int.tdiv x0 2)) (wrap64 (x3 + (wrap64 (Int.tmod x0 2))))) else (some x3)
def countwheelref01_Count.f (k : Nat) (a0 : Int) : Option (Int) := countwheelref01_Count.l0 k a0 0
theorem countwheelref01_Count.mono_l : ∀ k, (∀ y0 y1, LeO (countwheelref01_Count.l0 k y0 y1) (countwheelref01_Count.l0 (k + 1) y0 y1))
  | 0 => fun _ _ r h => by simp [countwheelref01_Count.l0] at h
  | k + 1 => by
    have ih0 := countwheelref01_Count.mono_l k
    · intro y0 y1
      unfold countwheelref01_Count.l0
      repeat' first
      | (with_reducible exact ih0 _ _)
      | (with_reducible exact LeO.refl _)
      | (with_reducible exact LeO.none _)
      | (with_reducible refine LeO.ite ?_ ?_)
      | (with_reducible refine LeO.bind ?_ (fun _ => ?_))
      | exact ih0 _ _
      | exact LeO.none _
      | refine LeO.ite ?_ ?_
      | refine LeO.bind ?_ (fun _ => ?_)
theorem countwheelref01_Count.mono : ∀ a0 k, LeO (countwheelref01_Count.f k a0) (countwheelref01_Count.f (k + 1) a0) := by
  intro a0 k
  have ih0 := countwheelref01_Count.mono_l k
  unfold countwheelref01_Count.f
  repeat' first
      | (with_reducible exact ih0 _ _)
      | (with_reducible exact LeO.refl _)
      | (with_reducible exact LeO.none _)
      | (with_reducible refine LeO.ite ?_ ?_)
      | (with_reducible refine LeO.bind ?_ (fun _ => ?_))
      | exact ih0 _ _
      | exact LeO.none _
      | refine LeO.ite ?_ ?_
      | refine LeO.bind ?_ (fun _ => ?_)
set_option maxHeartbeats 8000000 in
set_option maxRecDepth 100000 in
theorem countwheelref01_Count.calls (k : Nat) (a0 : Int) (r : Int) (w : World) (h : countwheelref01_Count.f k a0 = some r) :
    Calls Try.prog 24 #[.int .u64 a0] w fun e w' => e = .returned (.int .i64 r) ∧ Drawn0 w w' := by
  have H : (countwheelref01_Count.l0 k a0 0) = some r := h
  clear h
  have H' := Aside0.mk H
  clear H
  go_enter Try.func24, Try.ntmps24
  go_wp2
  go_loopg [0, 3] k (fun kq v0 v3 w' => ∃ (x0_1 : Int) (x3_1 : Int), v0 = .int .u64 x0_1 ∧ v3 = .int .i64 x3_1 ∧ Aside0 (countwheelref01_Count.l0 kq x0_1 x3_1 = some r) ∧ Aside0 (kq ≤ k) ∧ Drawn0 w w')
  case atStart => exact ⟨(a0), (0), (by first | rfl | (simp; done) | (simp [*]; done)), (by first | rfl | (simp; done) | (simp [*]; done)), H', ⟨Nat.le_refl _⟩, by repeat (first | exact Drawn0.refl _ | apply Drawn0.step)⟩
  case round =>
    clear H'
    obtain ⟨x0_1, x3_1, rfl, rfl, HA, HK1, ⟨m1, rfl⟩⟩ := hrel
    cases gk with
    | zero => exact absurd HA.out (by simp [countwheelref01_Count.l0])
    | succ k1 =>
      have H := HA.out
      clear HA
      simp only [countwheelref01_Count.l0] at H
      by_cases c2 : x0_1 > 0
      · rw [if_pos c2] at H
        have c2b0 : decide (0 < x0_1) = true := decide_eq_true c2
        clear c2
        have H' := Aside0.mk H
        clear H
        go_wp2
        go_roundg k1
        case measure => have := HK1.out; omega
        case rel => exact ⟨(IntKind.u64.wrap (Int.tdiv x0_1 2)), (wrap64 (x3_1 + (wrap64 (Int.tmod x0_1 2)))), (by first | rfl | (simp; done) | (simp [*]; done)), (by first | rfl | (simp; done) | (simp [*]; done)), H', ⟨by have := HK1.out; omega⟩, by repeat (first | exact Drawn0.refl _ | apply Drawn0.step)⟩
      · rw [if_neg c2] at H
        have c2b0 : decide (0 < x0_1) = false := decide_eq_false c2
        clear c2
        obtain rfl := Option.some.inj H
        go_wp2
        go_ret
        exact ⟨by first | rfl | (simp; done) | (simp [*]; done), by repeat (first | exact Drawn0.refl _ | apply Drawn0.step)⟩

/-! ### octet_Signed: function 25 -/
def octet_Signed.f (a0 : Int) (a1 : Int) : Option (Int) := (octet_size.f a1).bind fun bt103 => (if bt103.2 = true then (if 0 ≤ (IntKind.u64.wrap (64 - bt103.1)) then (some (shr .i64 (wrap64 (shl .u64 a0 (IntKind.u64.wrap (64 - bt103.1)))) (IntKind.u64.wrap (64 - bt103.1)))) else (none)) else (some 0))
set_option maxHeartbeats 8000000 in
set_option maxRecDepth 100000 in
theorem octet_Signed.calls (a0 : Int) (a1 : Int) (r : Int) (w : World) (h : octet_Signed.f a0 a1 = some r) :
    Calls Try.prog 25 #[.int .u64 a0, .int .i64 a1] w fun e w' => e = .returned (.int .i64 r) ∧ Drawn0 w w' := by
  have H : ((octet_size.f a1).bind fun bt103 => (if bt103.2 = true then (if 0 ≤ (IntKind.u64.wrap (64 - bt103.1)) then (some (shr .i64 (wrap64 (shl .u64 a0 (IntKind.u64.wrap (64 - bt103.1)))) (IntKind.u64.wrap (64 - bt103.1)))) else (none)) else (some 0))) = some r := h
  clear h
  replace H := Option.bind_eq_some_iff.mp H
  obtain ⟨⟨t103, t104⟩, A30, H⟩ := H
  replace H : (if t104 = true then (if 0 ≤ (IntKind.u64.wrap (64 - t103)) then (some (shr .i64 (wrap64 (shl .u64 a0 (IntKind.u64.wrap (64 - t103)))) (IntKind.u64.wrap (64 - t103)))) else (none)) else (some 0)) = some r := H
  have A3 := Aside0.mk A30
  clear A30
  by_cases c4 : t104 = true
  · subst c4
    have H1 : (if 0 ≤ (IntKind.u64.wrap (64 - t103)) then (some (shr .i64 (wrap64 (shl .u64 a0 (IntKind.u64.wrap (64 - t103)))) (IntKind.u64.wrap (64 - t103)))) else (none)) = some r := by rw [if_pos rfl] at H; exact H
    clear H
    have H := H1
    clear H1
    obtain ⟨ji5, hji5⟩ : ∃ j_ : Int, (IntKind.u64.wrap (64 - t103)) = j_ := ⟨_, rfl⟩
    replace H : (if 0 ≤ (ji5) then (some (shr .i64 (wrap64 (shl .u64 a0 (ji5))) (ji5))) else (none)) = some r := by first | (rw [hji5] at H; exact H) | (simp only [hji5] at H ⊢; exact H)
    (try rw [hji5] at A3)
    by_cases c6 : 0 ≤ (ji5)
    · rw [if_pos c6] at H
      have c6b0 := eq_true c6
      have c6b1 : decide (0 ≤ (ji5)) = true := decide_eq_true c6
      clear c6
      obtain ⟨ji7, hji7⟩ : ∃ j_ : Int, (shl .u64 a0 (ji5)) = j_ := ⟨_, rfl⟩
      replace H : (some (shr .i64 (wrap64 (ji7)) (ji5))) = some r := by first | (rw [hji7] at H; exact H) | (simp only [hji7] at H ⊢; exact H)
      (try rw [hji7] at A3)
      have hji7_ : (IntKind.u64.wrap (a0 * 2 ^ min (ji5).toNat 64)) = ji7 := hji7
      have hji7z : (ji5) ≤ 64 → (IntKind.u64.wrap (a0 * 2 ^ (ji5).toNat)) = ji7 := shl_small hji7
      have c8b0 := eq_true (of_decide_eq_true (by first | (with_reducible assumption) | assumption) : 0 ≤ (ji5))
      obtain ⟨ji9, hji9⟩ : ∃ j_ : Int, (shr .i64 (wrap64 (ji7)) (ji5)) = j_ := ⟨_, rfl⟩
      replace H : (some ji9) = some r := by first | (rw [hji9] at H; exact H) | (simp only [hji9] at H ⊢; exact H)
      (try rw [hji9] at A3)
      have hji9_ : ((wrap64 (ji7)) / 2 ^ min (ji5).toNat 64) = ji9 := hji9
      have hji9z : (ji5) ≤ 64 → ((wrap64 (ji7)) / 2 ^ (ji5).toNat) = ji9 := shr_small hji9
      obtain rfl := Option.some.inj H
      go_enter Try.func25, Try.ntmps25
      go_wp2_with (first | ((with_reducible refine gate_callee (f := 59) rfl ?_); refine goesL_ (some 9) rfl rfl Try.func59 (by kernel_rfl) rfl #[.int .i64 a1] rfl (by (try simp only [List.map_toArray, List.map_cons, List.map_nil]); first | done | rfl | (simp only [List.length_drop, List.length_take]; rfl)) ?_; (with_reducible refine (octet_size.calls a1 t103 true _ A3.out).mono ?_); rintro e w' ⟨rfl, ⟨nd, rfl⟩⟩; refine ⟨_, rfl, ?_⟩))
      go_ret
      exact ⟨by first | rfl | (simp; done) | (simp only [← hji5, ← hji7, ← hji9] <;> (first | rfl | simp)) | (simp [*]; done), by repeat (first | exact Drawn0.refl _ | apply Drawn0.step)⟩
    · rw [if_neg c6] at H
      exact absurd H (by simp)
  · replace c4 := Bool.eq_false_iff.mpr c4
    subst c4
    have H1 : (some 0) = some r := by rw [if_neg (show ¬ (false = true) by decide)] at H; exact H
    clear H
    have H := H1
    clear H1
    obtain rfl := Option.some.inj H
    go_enter Try.func25, Try.ntmps25
    go_wp2_with (first | ((with_reducible refine gate_callee (f := 59) rfl ?_); refine goesL_ (some 9) rfl rfl Try.func59 (by kernel_rfl) rfl #[.int .i64 a1] rfl (by (try simp only [List.map_toArray, List.map_cons, List.map_nil]); first | done | rfl | (simp only [List.length_drop, List.length_take]; rfl)) ?_; (with_reducible refine (octet_size.calls a1 t103 false _ A3.out).mono ?_); rintro e w' ⟨rfl, ⟨nd, rfl⟩⟩; refine ⟨_, rfl, ?_⟩))
    go_ret
    exact ⟨by first | rfl | (simp; done) | (simp [*]; done), by repeat (first | exact Drawn0.refl _ | apply Drawn0.step)⟩

/-! ### countwheelref01_Signed: function 26 -/
def countwheelref01_Signed.f (k : Nat) (a0 : Int) (a1 : Int) : Option (Int) := (countwheelref01_Size.f a1).bind fun t105 => (if t105 = true then (if a1 = 8 then (some (wrap64 (a0))) else ((countwheelref01_power.f k (wrap64 (8 * a1))).bind fun t106 => (if t106 = 0 then (none) else (if (Int.tmod a0 t106) ≥ (IntKind.u64.wrap (Int.tdiv t106 2)) then (some (wrap64 ((wrap64 (Int.tmod a0 t106)) - (wrap64 (t106))))) else (some (wrap64 (Int.tmod a0 t106))))))) else (some 0))
theorem countwheelref01_Signed.mono : ∀ a0 a1 k, LeO (countwheelref01_Signed.f k a0 a1) (countwheelref01_Signed.f (k + 1) a0 a1) := by
  intro a0 a1 k
  unfold countwheelref01_Signed.f
  repeat' first
      | (with_reducible exact countwheelref01_power.mono _ _)
      | (with_reducible exact LeO.refl _)
      | (with_reducible exact LeO.none _)
      | (with_reducible refine LeO.ite ?_ ?_)
      | (with_reducible refine LeO.bind ?_ (fun _ => ?_))
      | exact countwheelref01_power.mono _ _
      | exact LeO.none _
      | refine LeO.ite ?_ ?_
      | refine LeO.bind ?_ (fun _ => ?_)
set_option maxHeartbeats 8000000 in
set_option maxRecDepth 100000 in
theorem countwheelref01_Signed.calls (k : Nat) (a0 : Int) (a1 : Int) (r : Int) (w : World) (h : countwheelref01_Signed.f k a0 a1 = some r) :
    Calls Try.prog 26 #[.int .u64 a0, .int .i64 a1] w fun e w' => e = .returned (.int .i64 r) ∧ Drawn0 w w' := by
  have H : ((countwheelref01_Size.f a1).bind fun t105 => (if t105 = true then (if a1 = 8 then (some (wrap64 (a0))) else ((countwheelref01_power.f k (wrap64 (8 * a1))).bind fun t106 => (if t106 = 0 then (none) else (if (Int.tmod a0 t106) ≥ (IntKind.u64.wrap (Int.tdiv t106 2)) then (some (wrap64 ((wrap64 (Int.tmod a0 t106)) - (wrap64 (t106))))) else (some (wrap64 (Int.tmod a0 t106))))))) else (some 0))) = some r := h
  clear h
  replace H := Option.bind_eq_some_iff.mp H
  obtain ⟨t105, A30, H⟩ := H
  replace H : (if t105 = true then (if a1 = 8 then (some (wrap64 (a0))) else ((countwheelref01_power.f k (wrap64 (8 * a1))).bind fun t106 => (if t106 = 0 then (none) else (if (Int.tmod a0 t106) ≥ (IntKind.u64.wrap (Int.tdiv t106 2)) then (some (wrap64 ((wrap64 (Int.tmod a0 t106)) - (wrap64 (t106))))) else (some (wrap64 (Int.tmod a0 t106))))))) else (some 0)) = some r := H
  have A3 := Aside0.mk A30
  clear A30
  by_cases c4 : t105 = true
  · subst c4
    have H1 : (if a1 = 8 then (some (wrap64 (a0))) else ((countwheelref01_power.f k (wrap64 (8 * a1))).bind fun t106 => (if t106 = 0 then (none) else (if (Int.tmod a0 t106) ≥ (IntKind.u64.wrap (Int.tdiv t106 2)) then (some (wrap64 ((wrap64 (Int.tmod a0 t106)) - (wrap64 (t106))))) else (some (wrap64 (Int.tmod a0 t106))))))) = some r := by rw [if_pos rfl] at H; exact H
    clear H
    have H := H1
    clear H1
    by_cases c5 : a1 = 8
    · rw [if_pos c5] at H
      have c5b0 : (a1 == 8) = true := beq_iff_eq.mpr c5
      have c5b1 : (a1 != 8) = false := bne_eq_false_iff_eq.mpr c5
      clear c5
      obtain rfl := Option.some.inj H
      go_enter Try.func26, Try.ntmps26
      go_wp2_with (first | ((with_reducible refine gate_callee (f := 57) rfl ?_); refine goesL_ (some 7) rfl rfl Try.func57 (by kernel_rfl) rfl #[.int .i64 a1] rfl (by (try simp only [List.map_toArray, List.map_cons, List.map_nil]); first | done | rfl | (simp only [List.length_drop, List.length_take]; rfl)) ?_; (with_reducible refine (countwheelref01_Size.calls a1 true _ A3.out).mono ?_); rintro e w' ⟨rfl, ⟨nd, rfl⟩⟩; refine ⟨_, rfl, ?_⟩))
      go_ret
      exact ⟨by first | rfl | (simp; done) | (simp [*]; done), by repeat (first | exact Drawn0.refl _ | apply Drawn0.step)⟩
    · rw [if_neg c5] at H
      have c5b0 : (a1 == 8) = false := beq_eq_false_iff_ne.mpr c5
      have c5b1 : (a1 != 8) = true := bne_iff_ne.mpr c5
      replace H := Option.bind_eq_some_iff.mp H
      obtain ⟨t106, A60, H⟩ := H
      replace H : (if t106 = 0 then (none) else (if (Int.tmod a0 t106) ≥ (IntKind.u64.wrap (Int.tdiv t106 2)) then (some (wrap64 ((wrap64 (Int.tmod a0 t106)) - (wrap64 (t106))))) else (some (wrap64 (Int.tmod a0 t106))))) = some r := H
      have A6 := Aside0.mk A60
      clear A60
      by_cases c7 : t106 = 0
      · rw [if_pos c7] at H
        exact absurd H (by simp)
      · rw [if_neg c7] at H
        have c7b0 : (t106 == 0) = false := beq_eq_false_iff_ne.mpr c7
        have c7b1 : (t106 != 0) = true := bne_iff_ne.mpr c7
        by_cases c8 : (Int.tmod a0 t106) ≥ (IntKind.u64.wrap (Int.tdiv t106 2))
        · rw [if_pos c8] at H
          have c8b0 : decide ((IntKind.u64.wrap (Int.tdiv t106 2)) ≤ (Int.tmod a0 t106)) = true := decide_eq_true c8
          clear c8
          obtain rfl := Option.some.inj H
          go_enter Try.func26, Try.ntmps26
          go_wp2_with (first | ((with_reducible refine gate_callee (f := 57) rfl ?_); refine goesL_ (some 7) rfl rfl Try.func57 (by kernel_rfl) rfl #[.int .i64 a1] rfl (by (try simp only [List.map_toArray, List.map_cons, List.map_nil]); first | done | rfl | (simp only [List.length_drop, List.length_take]; rfl)) ?_; (with_reducible refine (countwheelref01_Size.calls a1 true _ A3.out).mono ?_); rintro e w' ⟨rfl, ⟨nd, rfl⟩⟩; refine ⟨_, rfl, ?_⟩) | ((with_reducible refine gate_callee (f := 58) rfl ?_); refine goesL_ (some 15) rfl rfl Try.func58 (by kernel_rfl) rfl #[.int .i64 (wrap64 (8 * a1))] rfl (by (try simp only [List.map_toArray, List.map_cons, List.map_nil]); first | done | rfl | (simp only [List.length_drop, List.length_take]; rfl)) ?_; (with_reducible refine (countwheelref01_power.calls k (wrap64 (8 * a1)) t106 _ A6.out).mono ?_); rintro e w' ⟨rfl, ⟨nd, rfl⟩⟩; refine ⟨_, rfl, ?_⟩))
          go_ret
          exact ⟨by first | rfl | (simp; done) | (simp [*]; done), by repeat (first | exact Drawn0.refl _ | apply Drawn0.step)⟩
        · rw [if_neg c8] at H
          have c8b0 : decide ((IntKind.u64.wrap (Int.tdiv t106 2)) ≤ (Int.tmod a0 t106)) = false := decide_eq_false c8
          clear c8
          obtain rfl := Option.some.inj H
          go_enter Try.func26, Try.ntmps26
          go_wp2_with (first | ((with_reducible refine gate_callee (f := 57) rfl ?_); refine goesL_ (some 7) rfl rfl Try.func57 (by kernel_rfl) rfl #[.int .i64 a1] rfl (by (try simp only [List.map_toArray, List.map_cons, List.map_nil]); first | done | rfl | (simp only [List.length_drop, List.length_take]; rfl)) ?_; (with_reducible refine (countwheelref01_Size.calls a1 true _ A3.out).mono ?_); rintro e w' ⟨rfl, ⟨nd, rfl⟩⟩; refine ⟨_, rfl, ?_⟩) | ((with_reducible refine gate_callee (f := 58) rfl ?_); refine goesL_ (some 15) rfl rfl Try.func58 (by kernel_rfl) rfl #[.int .i64 (wrap64 (8 * a1))] rfl (by (try simp only [List.map_toArray, List.map_cons, List.map_nil]); first | done | rfl | (simp only [List.length_drop, List.length_take]; rfl)) ?_; (with_reducible refine (countwheelref01_power.calls k (wrap64 (8 * a1)) t106 _ A6.out).mono ?_); rintro e w' ⟨rfl, ⟨nd, rfl⟩⟩; refine ⟨_, rfl, ?_⟩))
          go_ret
          exact ⟨by first | rfl | (simp; done) | (simp [*]; done), by repeat (first | exact Drawn0.refl _ | apply Drawn0.step)⟩
  · replace c4 := Bool.eq_false_iff.mpr c4
    subst c4
    have H1 : (some 0) = some r := by rw [if_neg (show ¬ (false = true) by decide)] at H; exact H
    clear H
    have H := H1
    clear H1
    obtain rfl := Option.some.inj H
    go_enter Try.func26, Try.ntmps26
    go_wp2_with (first | ((with_reducible refine gate_callee (f := 57) rfl ?_); refine goesL_ (some 7) rfl rfl Try.func57 (by kernel_rfl) rfl #[.int .i64 a1] rfl (by (try simp only [List.map_toArray, List.map_cons, List.map_nil]); first | done | rfl | (simp only [List.length_drop, List.length_take]; rfl)) ?_; (with_reducible refine (countwheelref01_Size.calls a1 false _ A3.out).mono ?_); rintro e w' ⟨rfl, ⟨nd, rfl⟩⟩; refine ⟨_, rfl, ?_⟩))
    go_ret
    exact ⟨by first | rfl | (simp; done) | (simp [*]; done), by repeat (first | exact Drawn0.refl _ | apply Drawn0.step)⟩

/-- Bit i of a number. -/
def bitv (v : Int) (i : Nat) : Bool := v / 2 ^ i % 2 == 1

theorem and_one (x : Int) (h0 : 0 ≤ x) (h1 : x ≤ 18446744073709551615) : Go.bits .and .u64 x 1 = x % 2 := by
  obtain ⟨n, rfl⟩ := Int.eq_ofNat_of_zero_le h0
  have := u64_and_nat n 1 (by omega) (by omega)
  rw [show ((1 : Int)) = ((1 : Nat) : Int) from rfl, this, Nat.and_one_is_mod]
  omega

theorem bit_at (v i : Int) (h0 : 0 ≤ v) (h1 : v ≤ 18446744073709551615) (hi : 0 ≤ i) (hi2 : i < 64) : octet_Bit.f v i = some (bitv v i.toNat) := by
  unfold octet_Bit.f shr bitv
  rw [if_pos (by omega), if_pos hi2, if_pos hi]
  have e : min i.toNat IntKind.u64.bits = i.toNat := by simp [IntKind.bits]; omega
  rw [e]
  have hq : (0 : Int) < 2 ^ i.toNat := Int.pow_pos (by omega)
  rw [and_one _ (Int.ediv_nonneg h0 (Int.le_of_lt hq)) (Int.le_trans (Int.ediv_le_self _ h0) h1)]
theorem bit_no (v i : Int) (hi : ¬ (0 ≤ i ∧ i < 64)) : octet_Bit.f v i = some false := by
  unfold octet_Bit.f
  by_cases h : i ≥ 0
  · rw [if_pos h, if_neg (by omega)]
  · rw [if_neg h]
theorem rbit_tell (v : Int) (n : Nat) (h0 : 0 ≤ v) (h1 : v ≤ 18446744073709551615) (hn : n < 64) (d : Nat) : ∀ (k i : Nat), i ≤ n → n - i = d → d < k →
    countwheelref01_Bit.l0 k (v / 2 ^ i) (n : Int) (i : Int) = some (bitv v n) := by
  induction d with
  | zero =>
    intro k i hi hd hk
    obtain ⟨k, rfl⟩ : ∃ m, k = m + 1 := ⟨k - 1, by omega⟩
    obtain rfl : i = n := by omega
    have hq : (0 : Int) < 2 ^ i := Int.pow_pos (by omega)
    simp only [countwheelref01_Bit.l0]; rw [if_neg (Int.lt_irrefl _), Int.tmod_eq_emod_of_nonneg (Int.ediv_nonneg h0 (Int.le_of_lt hq))]; rfl
  | succ d ih =>
    intro k i hi hd hk
    obtain ⟨k, rfl⟩ : ∃ m, k = m + 1 := ⟨k - 1, by omega⟩
    have ih' := ih k (i + 1) (by omega) (by omega) (by omega)
    have hlt : (i : Int) < (n : Int) := by omega
    have hq : (0 : Int) < 2 ^ i := Int.pow_pos (by omega)
    have hX0 : 0 ≤ v / 2 ^ i := Int.ediv_nonneg h0 (Int.le_of_lt hq)
    have hX1 : v / 2 ^ i ≤ 18446744073709551615 := Int.le_trans (Int.ediv_le_self _ h0) h1
    have hn' : v / 2 ^ (i + 1) = v / 2 ^ i / 2 := by rw [Int.pow_succ, Int.ediv_ediv_of_nonneg (Int.le_of_lt hq)]
    rw [hn'] at ih'
    clear hn' hq
    generalize v / 2 ^ i = X at *
    have e2 : Int.tdiv X 2 = X / 2 := Int.tdiv_eq_ediv_of_nonneg hX0
    have e3 : IntKind.u64.wrap (X / 2) = X / 2 := IntWalk.u64_in _ (by omega)
    have e4 : wrap64 ((i : Int) + 1) = ((i + 1 : Nat) : Int) := by unfold wrap64; omega
    simp only [countwheelref01_Bit.l0]
    rw [if_pos hlt, e2, e3, e4]
    exact ih'
theorem rbit_at (v i : Int) (h0 : 0 ≤ v) (h1 : v ≤ 18446744073709551615) (hi : 0 ≤ i) (hi2 : i < 64) : countwheelref01_Bit.f 70 v i = some (bitv v i.toNat) := by
  obtain ⟨n, rfl⟩ := Int.eq_ofNat_of_zero_le hi
  have h := rbit_tell v n h0 h1 (by omega) n 70 0 (by omega) (by omega) (by omega)
  have e : v / 2 ^ 0 = v := by rw [Int.pow_zero, Int.ediv_one]
  rw [e] at h
  exact h

/-- How many bits are 1. -/
def pc (n : Nat) : Nat := if h : n = 0 then 0 else n % 2 + pc (n / 2)
termination_by n
decreasing_by omega
theorem pc_zero : pc 0 = 0 := by unfold pc; rfl
theorem pc_pos (n : Nat) (h : n ≠ 0) : pc n = n % 2 + pc (n / 2) := by rw [pc]; rw [dif_neg h]
theorem pc_two (n : Nat) : pc (2 * n) = pc n := by
  by_cases h : n = 0
  · subst h; rfl
  · rw [pc_pos (2 * n) (by omega)]
    have e1 : 2 * n % 2 = 0 := by omega
    have e2 : 2 * n / 2 = n := by omega
    rw [e1, e2, Nat.zero_add]
theorem and_even (m : Nat) (h : 0 < m) : (2 * m) &&& (2 * m - 1) = 2 * (m &&& (m - 1)) := by
  apply Nat.eq_of_testBit_eq
  intro i
  rw [Nat.testBit_and]
  cases i with
  | zero => simp
  | succ i =>
    rw [Nat.testBit_succ, Nat.testBit_succ, Nat.testBit_succ]
    have e1 : 2 * m / 2 = m := by omega
    have e2 : (2 * m - 1) / 2 = m - 1 := by omega
    have e3 : 2 * (m &&& (m - 1)) / 2 = m &&& (m - 1) := by omega
    rw [e1, e2, e3, Nat.testBit_and]
theorem and_odd (m : Nat) : (2 * m + 1) &&& (2 * m) = 2 * m := by
  apply Nat.eq_of_testBit_eq
  intro i
  rw [Nat.testBit_and]
  cases i with
  | zero => simp
  | succ i =>
    rw [Nat.testBit_succ, Nat.testBit_succ]
    have e1 : (2 * m + 1) / 2 = m := by omega
    have e2 : 2 * m / 2 = m := by omega
    rw [e1, e2, Bool.and_self]
theorem pc_and (n : Nat) : n ≠ 0 → pc (n &&& (n - 1)) + 1 = pc n := by
  induction n using Nat.strongRecOn with
  | _ n ih =>
    intro h
    rcases Nat.mod_two_eq_zero_or_one n with h2 | h2
    · obtain ⟨m, rfl⟩ : ∃ m, n = 2 * m := ⟨n / 2, by omega⟩
      rw [and_even m (by omega), pc_two, pc_two]
      exact ih m (by omega) (by omega)
    · obtain ⟨m, rfl⟩ : ∃ m, n = 2 * m + 1 := ⟨n / 2, by omega⟩
      have e : 2 * m + 1 - 1 = 2 * m := by omega
      rw [e, and_odd, pc_two, pc_pos (2 * m + 1) (by omega)]
      have e1 : (2 * m + 1) % 2 = 1 := by omega
      have e2 : (2 * m + 1) / 2 = m := by omega
      rw [e1, e2]; omega
theorem pc_le (d : Nat) : ∀ n, n < 2 ^ d → pc n ≤ d := by
  induction d with
  | zero => intro n h; have : n = 0 := by simp at h; exact h
            subst this; rw [pc_zero]; omega
  | succ d ih =>
    intro n h
    by_cases h0 : n = 0
    · subst h0; rw [pc_zero]; omega
    · rw [pc_pos n h0]
      have := ih (n / 2) (by rw [Nat.pow_succ] at h; omega)
      omega

theorem count_tell (d : Nat) : ∀ (k n : Nat) (c : Nat), n < 18446744073709551616 → pc n = d → c + d ≤ 64 → d < k → octet_Count.l0 k (n : Int) (c : Int) = some (((c + d : Nat)) : Int) := by
  induction d with
  | zero =>
    intro k n c hn hd hc hk
    obtain ⟨k, rfl⟩ : ∃ m, k = m + 1 := ⟨k - 1, by omega⟩
    have : n = 0 := by
      by_cases h : n = 0
      · exact h
      · have := pc_and n h; omega
    subst this
    simp only [octet_Count.l0]; rw [if_pos (by simp)]; simp
  | succ d ih =>
    intro k n c hn hd hc hk
    obtain ⟨k, rfl⟩ : ∃ m, k = m + 1 := ⟨k - 1, by omega⟩
    have h0 : n ≠ 0 := by rintro rfl; rw [pc_zero] at hd; omega
    have hp := pc_and n h0
    have hlt : n &&& (n - 1) < 18446744073709551616 := Nat.lt_of_le_of_lt Nat.and_le_left hn
    have ih' := ih k (n &&& (n - 1)) (c + 1) hlt (by omega) (by omega) (by omega)
    have e1 : IntKind.u64.wrap ((n : Int) - 1) = ((n - 1 : Nat) : Int) := by rw [IntWalk.u64_in _ (by omega)]; omega
    have e2 := u64_and_nat n (n - 1) hn (by omega)
    have e4 : wrap64 ((c : Int) + 1) = ((c + 1 : Nat) : Int) := by unfold wrap64; omega
    simp only [octet_Count.l0]
    rw [if_neg (by omega), e1, e2, e4, ih']
    congr 2; omega
theorem count_at (v : Int) (h0 : 0 ≤ v) (h1 : v ≤ 18446744073709551615) : octet_Count.f 70 v = some ((pc v.toNat : Nat) : Int) := by
  obtain ⟨n, rfl⟩ := Int.eq_ofNat_of_zero_le h0
  have hb := pc_le 64 n (by omega)
  have := count_tell (pc n) 70 n 0 (by omega) rfl (by omega) (by omega)
  simpa [octet_Count.f] using this
theorem rcount_tell (d : Nat) : ∀ (k n : Nat) (c : Nat), n < 2 ^ d → n < 18446744073709551616 → c + d ≤ 64 → d < k → countwheelref01_Count.l0 k (n : Int) (c : Int) = some (((c + pc n : Nat)) : Int) := by
  induction d with
  | zero =>
    intro k n c hn hn2 hc hk
    obtain ⟨k, rfl⟩ : ∃ m, k = m + 1 := ⟨k - 1, by omega⟩
    obtain rfl : n = 0 := by simp at hn; exact hn
    simp only [countwheelref01_Count.l0]; rw [if_neg (by omega), pc_zero]; simp
  | succ d ih =>
    intro k n c hn hn2 hc hk
    obtain ⟨k, rfl⟩ : ∃ m, k = m + 1 := ⟨k - 1, by omega⟩
    by_cases h0 : n = 0
    · subst h0
      simp only [countwheelref01_Count.l0]; rw [if_neg (by omega), pc_zero]; simp
    · have ih' := ih k (n / 2) (c + n % 2) (by rw [Nat.pow_succ] at hn; omega) (by omega) (by omega) (by omega)
      have hpos : (n : Int) > 0 := by omega
      have hfin : c + n % 2 + pc (n / 2) = c + pc n := by rw [pc_pos n h0]; omega
      have e2 : Int.tdiv (n : Int) 2 = ((n / 2 : Nat) : Int) := by rw [Int.tdiv_eq_ediv_of_nonneg (by omega)]; omega
      have e4 : Int.tmod (n : Int) 2 = ((n % 2 : Nat) : Int) := by rw [Int.tmod_eq_emod_of_nonneg (by omega)]; omega
      have e3 : IntKind.u64.wrap ((n / 2 : Nat) : Int) = ((n / 2 : Nat) : Int) := IntWalk.u64_in _ (by omega)
      have e5 : wrap64 ((c : Int) + (wrap64 ((n % 2 : Nat) : Int))) = ((c + n % 2 : Nat) : Int) := by
        clear e2 e4 e3 ih'
        unfold wrap64; omega
      simp only [countwheelref01_Count.l0]
      rw [if_pos hpos, e2, e3, e4, e5, ih', hfin]
theorem rcount_at (v : Int) (h0 : 0 ≤ v) (h1 : v ≤ 18446744073709551615) : countwheelref01_Count.f 70 v = some ((pc v.toNat : Nat) : Int) := by
  obtain ⟨n, rfl⟩ := Int.eq_ofNat_of_zero_le h0
  have := rcount_tell 64 70 n 0 (by omega) (by omega) (by omega) (by omega)
  simpa [countwheelref01_Count.f] using this

/-- With a sign. -/
def sg (v n : Int) : Int :=
  if n = 8 then (if v ≥ 9223372036854775808 then v - 18446744073709551616 else v)
  else if n = 4 then (if v % 4294967296 ≥ 2147483648 then v % 4294967296 - 4294967296 else v % 4294967296)
  else if n = 2 then (if v % 65536 ≥ 32768 then v % 65536 - 65536 else v % 65536)
  else if n = 1 then (if v % 256 ≥ 128 then v % 256 - 256 else v % 256) else 0
theorem signed_at (v n : Int) (h0 : 0 ≤ v) (h1 : v ≤ 18446744073709551615) : octet_Signed.f v n = some (sg v n) := by
  unfold octet_Signed.f octet_size.f sg
  by_cases a : n = 8
  · subst a
    simp [shr, shl, IntKind.wrap_u64, IntKind.bits, wrap64]
    omega
  · by_cases b : n = 4
    · subst b
      simp [shr, shl, IntKind.wrap_u64, IntKind.bits, wrap64]
      split <;> omega
    · by_cases c : n = 2
      · subst c
        simp [shr, shl, IntKind.wrap_u64, IntKind.bits, wrap64]
        split <;> omega
      · by_cases d : n = 1
        · subst d
          simp [shr, shl, IntKind.wrap_u64, IntKind.bits, wrap64]
          split <;> omega
        · simp [a, b, c, d]
theorem rsigned_at (v n : Int) (h0 : 0 ≤ v) (h1 : v ≤ 18446744073709551615) : countwheelref01_Signed.f 70 v n = some (sg v n) := by
  have p1 : countwheelref01_power.f 70 8 = some 256 := by decide +kernel
  have p2 : countwheelref01_power.f 70 16 = some 65536 := by decide +kernel
  have p4 : countwheelref01_power.f 70 32 = some 4294967296 := by decide +kernel
  have w1 : wrap64 8 = 8 := by decide +kernel
  have w2 : wrap64 16 = 16 := by decide +kernel
  have w4 : wrap64 32 = 32 := by decide +kernel
  have m1 : Int.tmod v 256 = v % 256 := Int.tmod_eq_emod_of_nonneg h0
  have m2 : Int.tmod v 65536 = v % 65536 := Int.tmod_eq_emod_of_nonneg h0
  have m4 : Int.tmod v 4294967296 = v % 4294967296 := Int.tmod_eq_emod_of_nonneg h0
  unfold countwheelref01_Signed.f countwheelref01_Size.f sg
  by_cases a : n = 1
  · subst a
    simp [w1, p1, m1]
    simp [wrap64, IntKind.wrap_u64]
    split <;> simp <;> omega
  · by_cases b : n = 2
    · subst b
      simp [w2, p2, m2]
      simp [wrap64, IntKind.wrap_u64]
      split <;> simp <;> omega
    · by_cases c : n = 4
      · subst c
        simp [w4, p4, m4]
        simp [wrap64, IntKind.wrap_u64]
        split <;> simp <;> omega
      · by_cases d : n = 8
        · subst d
          simp [wrap64]
          split <;> omega
        · simp [a, b, c, d]

set_option maxHeartbeats 800000 in
theorem bits_in (v i n : Int) (h0 : 0 ≤ v) (h1 : v ≤ 18446744073709551615) (hi : 0 ≤ i) (hi2 : i < 64) (w : World) :
    Calls Try.prog 5 #[.int .u64 v, .int .i64 i, .int .i64 n] w fun e w' => e = .returned (.bool true) ∧ Below w.heap.size w w' := by
  have B1 := Go.Lib.hid (bit_at v i h0 h1 hi hi2)
  have B2 := Go.Lib.hid (rbit_at v i h0 h1 hi hi2)
  have C1 := Go.Lib.hid (count_at v h0 h1)
  have C2 := Go.Lib.hid (rcount_at v h0 h1)
  have S1 := Go.Lib.hid (signed_at v n h0 h1)
  have S2 := Go.Lib.hid (rsigned_at v n h0 h1)
  generalize bitv v i.toNat = b at *
  generalize ((pc v.toNat : Nat) : Int) = cnt at *
  generalize sg v n = sgn at *
  have t1 : decide (0 ≤ i) = true := by simpa using hi
  have t2 : decide (i < 64) = true := by simpa using hi2
  go_enter Try.func5, Try.ntmps5
  go_wp2_with fail
  refine (countwheelref01_Bit.calls 70 v i b w B2.out).mono ?_
  rintro e w1 ⟨rfl, hd1⟩
  obtain ⟨n1, rfl⟩ := hd1.out
  go_wp2_with fail
  refine (octet_Bit.calls v i b _ B1.out).mono ?_
  rintro e w2 ⟨rfl, hd2⟩
  obtain ⟨n2, rfl⟩ := hd2.out
  go_wp2_with fail
  refine (octet_Count.calls 70 v cnt _ C1.out).mono ?_
  rintro e w3 ⟨rfl, hd3⟩
  obtain ⟨n3, rfl⟩ := hd3.out
  go_wp2_with fail
  refine (countwheelref01_Count.calls 70 v cnt _ C2.out).mono ?_
  rintro e w4 ⟨rfl, hd4⟩
  obtain ⟨n4, rfl⟩ := hd4.out
  go_wp2_with fail
  refine (octet_Signed.calls v n sgn _ S1.out).mono ?_
  rintro e w5 ⟨rfl, hd5⟩
  obtain ⟨n5, rfl⟩ := hd5.out
  go_wp2_with fail
  refine (countwheelref01_Signed.calls 70 v n sgn _ S2.out).mono ?_
  rintro e w6 ⟨rfl, hd6⟩
  obtain ⟨n6, rfl⟩ := hd6.out
  go_wp2_with fail
  refine (awake_calls _).mono ?_
  rintro e w7 ⟨rfl, hB7⟩
  have HB := Go.Lib.hid hB7
  clear hB7
  go_wp2_with fail
  go_ret
  exact ⟨rfl, (pw_below_drewN (Below.refl _ _) _).trans (HB.out.mono (Nat.le_refl _))⟩

set_option maxHeartbeats 800000 in
theorem bits_out (v i n : Int) (h0 : 0 ≤ v) (h1 : v ≤ 18446744073709551615) (hi : ¬ (0 ≤ i ∧ i < 64)) (w : World) :
    Calls Try.prog 5 #[.int .u64 v, .int .i64 i, .int .i64 n] w fun e w' => e = .returned (.bool true) ∧ Below w.heap.size w w' := by
  have B1 := Go.Lib.hid (bit_no v i hi)
  have C1 := Go.Lib.hid (count_at v h0 h1)
  have C2 := Go.Lib.hid (rcount_at v h0 h1)
  have S1 := Go.Lib.hid (signed_at v n h0 h1)
  have S2 := Go.Lib.hid (rsigned_at v n h0 h1)
  generalize ((pc v.toNat : Nat) : Int) = cnt at *
  generalize sg v n = sgn at *
  generalize hb : false = b at B1
  by_cases hc : 0 ≤ i
  · have t1 : decide (0 ≤ i) = true := by simpa using hc
    have t2 : decide (i < 64) = false := by simp; omega
    clear hc hi
    subst hb
    go_enter Try.func5, Try.ntmps5
    go_wp2_with fail
    refine (octet_Bit.calls v i false _ B1.out).mono ?_
    rintro e w2 ⟨rfl, hd2⟩
    obtain ⟨n2, rfl⟩ := hd2.out
    go_wp2_with fail
    refine (octet_Count.calls 70 v cnt _ C1.out).mono ?_
    rintro e w3 ⟨rfl, hd3⟩
    obtain ⟨n3, rfl⟩ := hd3.out
    go_wp2_with fail
    refine (countwheelref01_Count.calls 70 v cnt _ C2.out).mono ?_
    rintro e w4 ⟨rfl, hd4⟩
    obtain ⟨n4, rfl⟩ := hd4.out
    go_wp2_with fail
    refine (octet_Signed.calls v n sgn _ S1.out).mono ?_
    rintro e w5 ⟨rfl, hd5⟩
    obtain ⟨n5, rfl⟩ := hd5.out
    go_wp2_with fail
    refine (countwheelref01_Signed.calls 70 v n sgn _ S2.out).mono ?_
    rintro e w6 ⟨rfl, hd6⟩
    obtain ⟨n6, rfl⟩ := hd6.out
    go_wp2_with fail
    refine (awake_calls _).mono ?_
    rintro e w7 ⟨rfl, hB7⟩
    have HB := Go.Lib.hid hB7
    clear hB7
    go_wp2_with fail
    go_ret
    exact ⟨rfl, (pw_below_drewN (Below.refl _ _) _).trans (HB.out.mono (Nat.le_refl _))⟩
  · have t1 : decide (0 ≤ i) = false := by simpa using hc
    clear hc hi
    subst hb
    go_enter Try.func5, Try.ntmps5
    go_wp2_with fail
    refine (octet_Bit.calls v i false _ B1.out).mono ?_
    rintro e w2 ⟨rfl, hd2⟩
    obtain ⟨n2, rfl⟩ := hd2.out
    go_wp2_with fail
    refine (octet_Count.calls 70 v cnt _ C1.out).mono ?_
    rintro e w3 ⟨rfl, hd3⟩
    obtain ⟨n3, rfl⟩ := hd3.out
    go_wp2_with fail
    refine (countwheelref01_Count.calls 70 v cnt _ C2.out).mono ?_
    rintro e w4 ⟨rfl, hd4⟩
    obtain ⟨n4, rfl⟩ := hd4.out
    go_wp2_with fail
    refine (octet_Signed.calls v n sgn _ S1.out).mono ?_
    rintro e w5 ⟨rfl, hd5⟩
    obtain ⟨n5, rfl⟩ := hd5.out
    go_wp2_with fail
    refine (countwheelref01_Signed.calls 70 v n sgn _ S2.out).mono ?_
    rintro e w6 ⟨rfl, hd6⟩
    obtain ⟨n6, rfl⟩ := hd6.out
    go_wp2_with fail
    refine (awake_calls _).mono ?_
    rintro e w7 ⟨rfl, hB7⟩
    have HB := Go.Lib.hid hB7
    clear hB7
    go_wp2_with fail
    go_ret
    exact ⟨rfl, (pw_below_drewN (Below.refl _ _) _).trans (HB.out.mono (Nat.le_refl _))⟩

theorem octetBits_walk (w : World) (v : Int) (wv : (Lit.int .u64 v).wf = true) (i : Int) (wi : (Lit.int .i64 i).wf = true) (n : Int) (wn : (Lit.int .i64 n).wf = true) :
    Calls Try.prog 5 #[.int .u64 v, .int .i64 i, .int .i64 n] w fun e w' => e = .returned (.bool true) ∧ Below w.heap.size w w' := by
  have hv := bounds_u64 wv
  by_cases h : 0 ≤ i ∧ i < 64
  · exact bits_in v i n hv.1 hv.2 h.1 h.2 w
  · exact bits_out v i n hv.1 hv.2 h w
end Go.Proofs.Ytomhhaaogenedaa.Oct
