/- Divisors and multiples: the program's and the document's are one (plain). -/
import Derived.Test.YtnniejaknnpcjaaYHyp9
import Derived.Test.YtnniejaknnpcjaaYFin0
namespace Go.Proofs.Ytnniejaknnpcjaa.Hyp
open Go.RowKit Go.Proofs.YtnniejaknnpcjaaW.PrintWords Go.Proofs.YtnniejaknnpcjaaW.PrintLast Go.Proofs.YtnniejaknnpcjaaW.PrintMore Go.Proofs.Ytnniejaknnpcjaa.Mine Go.Proofs.Ytnniejaknnpcjaa.PHyperNumbers
set_option linter.unusedVariables false
set_option linter.unusedSimpArgs false
def sat (x : Int) : Int := if x ≤ 18446744073709551615 then x else 18446744073709551615

theorem sat_le (x : Int) : sat x ≤ 18446744073709551615 := by unfold sat; split <;> omega
theorem sat_nn (x : Int) (h : 0 ≤ x) : 0 ≤ sat x := by unfold sat; split <;> omega
theorem rsum_at (a b : Int) (a0 : 0 ≤ a) (a1 : a ≤ 18446744073709551615) (b0 : 0 ≤ b) (b1 : b ≤ 18446744073709551615) : countwheelref04_Sum.f a b = some (sat (a + b)) := by
 unfold countwheelref04_Sum.f sat
 simp only [IntKind.wrap_u64]
 split <;> split <;> simp <;> omega

theorem prod_at (a b : Int) (a0 : 0 ≤ a) (a1 : a ≤ 18446744073709551615) (b0 : 0 ≤ b) (b1 : b ≤ 18446744073709551615) : clock_Product.f a b = some (sat (a * b)) := by
 unfold clock_Product.f
 rw [if_pos a0]
 by_cases h : a = 0
 ·subst h
  rw [if_pos rfl]
  simp [IntKind.wrap_u64, sat]
 ·have hp : 0 < a := by omega
  rw [if_neg h]
  have hq0 : 0 ≤ (18446744073709551615 : Int) / a := Int.ediv_nonneg (by omega) a0
  have hq1 : (18446744073709551615 : Int) / a ≤ 18446744073709551615 := Int.ediv_le_self _ (by omega)
  have e : IntKind.u64.wrap ((18446744073709551615 : Int) / a) = (18446744073709551615 : Int) / a := IntWalk.u64_in _ ⟨hq0, hq1⟩
  rw [e]
  have key : b ≤ (18446744073709551615 : Int) / a ↔ b * a ≤ 18446744073709551615 := Int.le_ediv_iff_mul_le hp
  have hnn : 0 ≤ a * b := Int.mul_nonneg a0 b0
  unfold sat
  rw [Int.mul_comm b a] at key
  by_cases h2 : b > (18446744073709551615 : Int) / a
  ·rw [if_pos h2, if_neg (by omega)]
  ·rw [if_neg h2, if_pos (by omega), IntWalk.u64_in _ (by omega)]

/-- Saturated parts make the saturated whole. -/
theorem sat_mix (x y n : Int) (hx : 0 ≤ x) (hy : 0 ≤ y) (hn : 0 ≤ n) : sat (sat x + sat y * n) = sat (x + y * n) := by
 have h1 : 0 ≤ y * n := Int.mul_nonneg hy hn
 have h2 : 0 ≤ sat y * n := Int.mul_nonneg (sat_nn y hy) hn
 by_cases ex : x ≤ 18446744073709551615
 ·have sx : sat x = x := by unfold sat; rw [if_pos ex]
  rw [sx]
  by_cases ey : y ≤ 18446744073709551615
  ·have sy : sat y = y := by unfold sat; rw [if_pos ey]
   rw [sy]
  ·have sy : sat y = 18446744073709551615 := by unfold sat; rw [if_neg ey]
   rw [sy]
   by_cases en : n = 0
   ·subst en; simp
   ·have hn1 : 1 ≤ n := by omega
    have g1 : 18446744073709551615 * 1 ≤ 18446744073709551615 * n := Int.mul_le_mul_of_nonneg_left hn1 (by omega)
    have g2 : y * 1 ≤ y * n := Int.mul_le_mul_of_nonneg_left hn1 hy
    unfold sat; split <;> split <;> omega
 ·have sx : sat x = 18446744073709551615 := by unfold sat; rw [if_neg ex]
  rw [sx]
  unfold sat at *; split <;> split <;> omega

theorem rprod_tell (d : Nat) : ∀ (k : Nat) (a b o : Int), 0 ≤ a → a ≤ 18446744073709551615 → 0 ≤ b → b < 2 ^ d → b ≤ 18446744073709551615 → 0 ≤ o → o ≤ 18446744073709551615 → d < k →
  countwheelref04_Product.l0 k a b o = some (sat (o + a * b)) := by
 induction d with
 | zero =>
  intro k a b o a0 a1 b0 bd b1 o0 o1 hk
  obtain ⟨k, rfl⟩ : ∃ m, k = m + 1 := ⟨k - 1, by omega⟩
  have : b = 0 := by simp at bd; omega
  subst this
  simp only [countwheelref04_Product.l0]
  rw [if_neg (by omega)]
  simp [sat, o1]
 | succ d ih =>
  intro k a b o a0 a1 b0 bd b1 o0 o1 hk
  obtain ⟨k, rfl⟩ : ∃ m, k = m + 1 := ⟨k - 1, by omega⟩
  simp only [countwheelref04_Product.l0]
  by_cases hb : b > 0
  ·rw [if_pos hb]
   have e2 : Int.tdiv b 2 = b / 2 := Int.tdiv_eq_ediv_of_nonneg b0
   have e3 : Int.tmod b 2 = b % 2 := Int.tmod_eq_emod_of_nonneg b0
   have e4 : IntKind.u64.wrap (b / 2) = b / 2 := IntWalk.u64_in _ (by omega)
   have hd : b / 2 < 2 ^ d := by
    have : (2 : Int) ^ (d + 1) = 2 * 2 ^ d := by rw [Int.pow_succ]; omega
    omega
   rw [e2, e3, e4]
   have hs := sat_le (a + a)
   have hs0 := sat_nn (a + a) (by omega)
   by_cases hm : b % 2 = 1
   ·rw [if_pos hm, rsum_at o a o0 o1 a0 a1]
    simp only [Option.bind_some]
    rw [rsum_at a a a0 a1 a0 a1]
    simp only [Option.bind_some]
    rw [ih k _ _ _ hs0 hs (by omega) hd (by omega) (sat_nn _ (by omega)) (sat_le _) (by omega), sat_mix _ _ _ (by omega) (by omega) (by omega)]
    congr 2
    have : a * b = a * (2 * (b / 2) + 1) := by congr 1; omega
    rw [this, Int.mul_add, Int.mul_one, ← Int.mul_assoc, Int.add_mul, Int.mul_comm a 2]
    have e : 2 * a * (b / 2) = a * (b / 2) + a * (b / 2) := by rw [Int.mul_assoc]; omega
    rw [e]; omega
   ·rw [if_neg hm, rsum_at a a a0 a1 a0 a1]
    simp only [Option.bind_some]
    rw [ih k _ _ _ hs0 hs (by omega) hd (by omega) o0 o1 (by omega)]
    have so : o = sat o := by unfold sat; rw [if_pos o1]
    rw [so, sat_mix _ _ _ (by omega) (by omega) (by omega), ← so]
    congr 2
    have : a * b = a * (2 * (b / 2)) := by congr 1; omega
    rw [this, ← Int.mul_assoc, Int.add_mul, Int.mul_comm a 2]
    have e : 2 * a * (b / 2) = a * (b / 2) + a * (b / 2) := by rw [Int.mul_assoc]; omega
    rw [e]
  ·rw [if_neg hb]
   have : b = 0 := by omega
   subst this
   simp [sat, o1]

theorem gcd_tmod (a b : Int) : Int.gcd b (Int.tmod a b) = Int.gcd a b := by
 rw [Int.gcd, Int.gcd, Int.natAbs_tmod, Nat.gcd_comm b.natAbs, ← Nat.gcd_rec, Nat.gcd_comm]
theorem gcd_zero (a : Int) : ((Int.gcd a 0 : Nat) : Int) = a.natAbs := by simp [Int.gcd]
theorem div_l0 : ∀ (d : Nat) (k : Nat) (a b : Int), b.natAbs ≤ d → d + 1 ≤ k → a.natAbs ≤ 9223372036854775807 → b.natAbs ≤ 9223372036854775807 → hyper_Divisor.l0 k a b = some ((Int.gcd a b : Nat) : Int)
 | 0, k, a, b, hb, hk, ha, hb2 => by
  obtain ⟨k, rfl⟩ : ∃ m, k = m + 1 := ⟨k - 1, by omega⟩
  obtain rfl : b = 0 := by omega
  simp only [hyper_Divisor.l0, if_true]
  rw [gcd_zero]
  split
  ·congr 1; unfold wrap64; omega
  ·congr 1; omega
 | d + 1, k, a, b, hb, hk, ha, hb2 => by
  obtain ⟨k, rfl⟩ : ∃ m, k = m + 1 := ⟨k - 1, by omega⟩
  simp only [hyper_Divisor.l0]
  by_cases h0 : b = 0
  ·subst h0
   rw [if_pos rfl, gcd_zero]
   split
   ·congr 1; unfold wrap64; omega
   ·congr 1; omega
  ·rw [if_neg h0]
   have hlt : (Int.tmod a b).natAbs < b.natAbs := by rw [Int.natAbs_tmod]; exact Nat.mod_lt _ (by omega)
   rw [div_l0 d k b (Int.tmod a b) (by omega) (by omega) hb2 (by omega), gcd_tmod]
theorem div_is (a b : Int) (ha : a.natAbs ≤ 2000) (hb : b.natAbs ≤ 2000) (k : Nat) (hk : 2001 ≤ k) : hyper_Divisor.f k a b = some ((Int.gcd a b : Nat) : Int) :=
 div_l0 b.natAbs k a b (Nat.le_refl _) (by omega) (by omega) (by omega)
theorem divides_is (d n : Int) (h : 0 < d) : countwheelref35_Divides.f d n = some (decide (d ∣ n)) := by
 unfold countwheelref35_Divides.f
 rw [if_neg (by omega)]
 congr 1
 rw [Bool.eq_iff_iff, beq_iff_eq, decide_eq_true_eq]
 exact ⟨fun h => Int.dvd_of_tmod_eq_zero h, fun h => Int.tmod_eq_zero_of_dvd h⟩
theorem rdiv_l0 {a b : Int} (ha : 0 < a) (ha2 : a ≤ 2000) (hb : 0 ≤ b) : ∀ (d k : Nat), Int.gcd a b ≤ d → d + 1 ≤ k → d ≤ 2000 → countwheelref35_Divisor.l0 k a b (d : Int) = some ((Int.gcd a b : Nat) : Int)
 | 0, k, hg, hk, hd => by
  have : 0 < Int.gcd a b := Int.gcd_pos_of_ne_zero_left b (by omega)
  omega
 | d + 1, k, hg, hk, hd => by
  have hp : 0 < Int.gcd a b := Int.gcd_pos_of_ne_zero_left b (by omega)
  obtain ⟨k, rfl⟩ : ∃ m, k = m + 1 := ⟨k - 1, by omega⟩
  simp only [countwheelref35_Divisor.l0]
  by_cases h1 : ((d + 1 : Nat) : Int) > 1
  ·rw [if_pos h1, divides_is _ _ (by omega)]
   have hw : wrap64 (((d + 1 : Nat) : Int) - 1) = (d : Int) := by unfold wrap64; omega
   rw [hw]
   simp only [Option.bind_some, decide_eq_true_eq]
   have no : ¬ (((d + 1 : Nat) : Int) ∣ a ∧ ((d + 1 : Nat) : Int) ∣ b) → countwheelref35_Divisor.l0 k a b (d : Int) = some ((Int.gcd a b : Nat) : Int) := by
    intro hn
    refine rdiv_l0 ha ha2 hb d k ?_ (by omega) (by omega)
    rcases Nat.lt_or_ge (Int.gcd a b) (d + 1) with h | h
    ·omega
    ·exfalso
     have e : Int.gcd a b = d + 1 := by omega
     exact hn ⟨by rw [← e]; exact Int.gcd_dvd_left .., by rw [← e]; exact Int.gcd_dvd_right ..⟩
   by_cases c1 : ((d + 1 : Nat) : Int) ∣ a
   ·rw [if_pos c1, divides_is _ _ (by omega)]
    simp only [Option.bind_some, decide_eq_true_eq]
    by_cases c2 : ((d + 1 : Nat) : Int) ∣ b
    ·rw [if_pos c2]
     have := Int.dvd_coe_gcd c1 c2
     have h3 : d + 1 ∣ Int.gcd a b := Int.ofNat_dvd.1 this
     have := Nat.le_of_dvd hp h3
     congr 2
     omega
    ·rw [if_neg c2]; exact no (fun h => c2 h.2)
   ·rw [if_neg c1]; exact no (fun h => c1 h.1)
  ·rw [if_neg h1]
   congr 1
   omega
theorem rdiv_is (a b : Int) (ha : a.natAbs ≤ 2000) (hb : b.natAbs ≤ 2000) (k : Nat) (hk : 2010 ≤ k) : countwheelref35_Divisor.f k a b = some ((Int.gcd a b : Nat) : Int) := by
 obtain ⟨k, rfl⟩ : ∃ m, k = m + 1 + 1 := ⟨k - 2, by omega⟩
 have j1 : ∀ x y : Int, 0 ≤ x → x ≤ 2000 → 0 ≤ y → y ≤ 2000 → countwheelref35_Divisor.j1 (k + 1) x y = some ((Int.gcd x y : Nat) : Int) := by
  intro x y h1 h2 h3 h4
  simp only [countwheelref35_Divisor.j1]
  by_cases h0 : x = 0
  ·subst h0
   rw [if_pos rfl]
   congr 1
   simp [Int.gcd]; omega
  ·rw [if_neg h0]
   obtain ⟨n, rfl⟩ : ∃ n : Nat, x = (n : Int) := ⟨x.toNat, by omega⟩
   exact rdiv_l0 (by omega) h2 h3 n k (Nat.le_of_dvd (by omega) (Int.ofNat_dvd.1 (Int.gcd_dvd_left ..))) (by omega) (by omega)
 have e : ∀ x y : Int, Int.gcd x y = Int.gcd x.natAbs y.natAbs := fun x y => by simp [Int.gcd]
 have wa : ∀ x : Int, x.natAbs ≤ 2000 → x < 0 → wrap64 (-x) = (x.natAbs : Int) := fun x h1 h2 => by unfold wrap64; omega
 have j0 : ∀ x : Int, 0 ≤ x → x ≤ 2000 → countwheelref35_Divisor.j0 (k + 1 + 1) x b = some ((Int.gcd x b.natAbs : Nat) : Int) := by
  intro x h1 h2
  simp only [countwheelref35_Divisor.j0]
  by_cases h : b < 0
  ·rw [if_pos h, wa b hb h]; exact j1 _ _ h1 h2 (by omega) (by omega)
  ·rw [if_neg h, j1 x b h1 h2 (by omega) (by omega), show ((b.natAbs : Nat) : Int) = b by omega]
 rw [e]
 unfold countwheelref35_Divisor.f
 by_cases h : a < 0
 ·rw [if_pos h, wa a ha h]; exact j0 _ (by omega) (by omega)
 ·rw [if_neg h, j0 a (by omega) (by omega), show ((a.natAbs : Nat) : Int) = a by omega]
-- multiples
/-- The least that both divide, up to the greatest number. -/
def mulV (x y : Int) : Int := if x = 0 ∨ y = 0 then 0 else sat (x / (Int.gcd x y : Nat) * y)
theorem mulV_nn {x y : Int} (hx : 0 ≤ x) (hy : 0 ≤ y) : 0 ≤ mulV x y := by
 unfold mulV
 split
 ·omega
 ·exact sat_nn _ (Int.mul_nonneg (Int.ediv_nonneg hx (by omega)) hy)
theorem mulV_le (x y : Int) : mulV x y ≤ 18446744073709551615 := by
 unfold mulV
 split
 ·omega
 ·exact sat_le _
theorem quot_ok {x : Int} {g : Nat} (hx : 0 ≤ x) (hx2 : x ≤ 18446744073709551615) (hg : 0 < g) : IntKind.u64.wrap (Int.tdiv x (g : Int)) = x / (g : Int) ∧ 0 ≤ x / (g : Int) ∧ x / (g : Int) ≤ 18446744073709551615 := by
 have h0 : 0 ≤ x / (g : Int) := Int.ediv_nonneg hx (by omega)
 have h1 : x / (g : Int) ≤ x := Int.ediv_le_self _ hx
 rw [Int.tdiv_eq_ediv_of_nonneg hx]
 exact ⟨IntWalk.u64_in _ ⟨h0, by omega⟩, h0, by omega⟩
theorem mul_l0 {x y : Int} {g : Nat} (hx : 0 ≤ x) (hx2 : x ≤ 18446744073709551615) (hy : 0 ≤ y) (hy2 : y ≤ 18446744073709551615) (hg : 0 < g) : ∀ (d k : Nat) (u v : Int), 0 ≤ u → 0 ≤ v → v.toNat ≤ d → d + 1 ≤ k → Int.gcd u v = g → hyper_Multiple.l0 k x y u v = some (sat (x / (g : Int) * y))
 | 0, k, u, v, hu, hv, hd, hk, he => by
  obtain ⟨k, rfl⟩ : ∃ m, k = m + 1 := ⟨k - 1, by omega⟩
  obtain rfl : v = 0 := by omega
  have hug : u = (g : Int) := by rw [← he, gcd_zero]; omega
  subst hug
  obtain ⟨q1, q2, q3⟩ := quot_ok hx hx2 hg
  simp only [hyper_Multiple.l0, if_true]
  rw [if_neg (by omega), q1, prod_at _ _ q2 q3 hy hy2]; rfl
 | d + 1, k, u, v, hu, hv, hd, hk, he => by
  obtain ⟨k, rfl⟩ : ∃ m, k = m + 1 := ⟨k - 1, by omega⟩
  simp only [hyper_Multiple.l0]
  by_cases h0 : v = 0
  ·subst h0
   have hug : u = (g : Int) := by rw [← he, gcd_zero]; omega
   subst hug
   obtain ⟨q1, q2, q3⟩ := quot_ok hx hx2 hg
   rw [if_pos rfl, if_neg (by omega), q1, prod_at _ _ q2 q3 hy hy2]; rfl
  ·rw [if_neg h0]
   have e : Int.tmod u v = u % v := Int.tmod_eq_emod_of_nonneg hu
   have m0 := Int.emod_nonneg u h0
   have m1 := Int.emod_lt_of_pos u (show 0 < v by omega)
   exact mul_l0 hx hx2 hy hy2 hg d k v (Int.tmod u v) hv (by omega) (by omega) (by omega) (by rw [gcd_tmod]; exact he)
theorem mul_is {x y : Int} (hx : 0 ≤ x) (hx2 : x ≤ 18446744073709551615) (hy : 0 ≤ y) (hy2 : y ≤ 18446744073709551615) (k : Nat) (hk : y.toNat + 3 ≤ k) : hyper_Multiple.f k x y = some (mulV x y) := by
 obtain ⟨k, rfl⟩ : ∃ m, k = m + 1 := ⟨k - 1, by omega⟩
 simp only [hyper_Multiple.f, hyper_Multiple.j0]
 unfold mulV
 by_cases h0 : x = 0
 ·simp [h0]
 ·rw [if_neg h0]
  by_cases h1 : y = 0
  ·simp [h0, h1]
  ·rw [if_neg (by simpa using h1), if_neg (by omega)]
   exact mul_l0 hx hx2 hy hy2 (Int.gcd_pos_of_ne_zero_left y h0) y.toNat k x y hx hy (Nat.le_refl _) (by omega) rfl
theorem rprod_is {a b : Int} (a0 : 0 ≤ a) (a1 : a ≤ 18446744073709551615) (b0 : 0 ≤ b) (b1 : b ≤ 18446744073709551615) (k : Nat) (hk : 65 ≤ k) : countwheelref04_Product.f k a b = some (sat (a * b)) := by
 unfold countwheelref04_Product.f
 rw [rprod_tell 64 k a b 0 a0 a1 b0 (by omega) b1 (by omega) (by omega) (by omega), Int.zero_add]
theorem rmul_end {x y : Int} {g : Nat} (hx : 0 ≤ x) (hx2 : x ≤ 18446744073709551615) (hy : 0 ≤ y) (hy2 : y ≤ 18446744073709551615) (hg : 0 < g) (k : Nat) (hk : 66 ≤ k) (u v : Int) (hu : 0 ≤ u) (hv : 0 ≤ v) (he : Int.gcd u v = g) (hs : u = v ∨ u = 0 ∨ v = 0) :
  countwheelref35_Multiple.j2 k x y u v false = some (sat (x / (g : Int) * y)) := by
 obtain ⟨k, rfl⟩ : ∃ m, k = m + 1 := ⟨k - 1, by omega⟩
 simp only [countwheelref35_Multiple.j2]
 rw [if_neg (by decide)]
 obtain ⟨q1, q2, q3⟩ := quot_ok hx hx2 hg
 by_cases h0 : u = 0
 ·subst h0
  have hug : v = (g : Int) := by rw [← he]; simp [Int.gcd]; omega
  subst hug
  rw [if_pos rfl, if_neg (by omega), q1, rprod_is q2 q3 hy hy2 k (by omega)]; rfl
 ·have hug : u = (g : Int) := by
   rcases hs with h | h | h
   ·subst h; rw [← he]; simp [Int.gcd]; omega
   ·exact absurd h h0
   ·subst h; rw [← he]; simp [Int.gcd]; omega
  subst hug
  rw [if_neg h0, q1, rprod_is q2 q3 hy hy2 k (by omega)]; rfl
theorem rmul_l0 {x y : Int} {g : Nat} (hx : 0 ≤ x) (hx2 : x ≤ 18446744073709551615) (hy : 0 ≤ y) (hy2 : y ≤ 18446744073709551615) (hg : 0 < g) : ∀ (d k : Nat) (u v : Int), 0 ≤ u → 0 ≤ v → (u + v).toNat ≤ d → 2 * d + 70 ≤ k → Int.gcd u v = g → countwheelref35_Multiple.l0 k x y u v = some (sat (x / (g : Int) * y))
 | 0, k, u, v, hu, hv, hd, hk, he => by
  exfalso
  obtain rfl : u = 0 := by omega
  obtain rfl : v = 0 := by omega
  simp [Int.gcd] at he; omega
 | d + 1, k, u, v, hu, hv, hd, hk, he => by
  obtain ⟨k, rfl⟩ : ∃ m, k = m + 1 + 1 := ⟨k - 2, by omega⟩
  simp only [countwheelref35_Multiple.l0]
  by_cases h1 : u = v
  ·rw [if_pos h1]; exact rmul_end hx hx2 hy hy2 hg _ (by omega) u v hu hv he (.inl h1)
  ·rw [if_neg h1]
   by_cases h2 : u > 0
   ·rw [if_pos h2]
    by_cases h3 : v > 0
    ·rw [decide_eq_true h3]
     simp only [countwheelref35_Multiple.j2, if_true]
     by_cases h4 : u > v
     ·rw [if_pos h4, if_neg (by omega)]
      have e : Int.tmod u v = u % v := Int.tmod_eq_emod_of_nonneg hu
      have m0 := Int.emod_nonneg u (show v ≠ 0 by omega)
      have m1 := Int.emod_lt_of_pos u h3
      exact rmul_l0 hx hx2 hy hy2 hg d k _ _ (by omega) hv (by omega) (by omega) (by rw [Int.gcd_comm, gcd_tmod]; exact he)
     ·rw [if_neg h4, if_neg (by omega)]
      have e : Int.tmod v u = v % u := Int.tmod_eq_emod_of_nonneg hv
      have m0 := Int.emod_nonneg v (show u ≠ 0 by omega)
      have m1 := Int.emod_lt_of_pos v h2
      exact rmul_l0 hx hx2 hy hy2 hg d k _ _ hu (by omega) (by omega) (by omega) (by rw [gcd_tmod, Int.gcd_comm]; exact he)
    ·rw [decide_eq_false h3]; exact rmul_end hx hx2 hy hy2 hg _ (by omega) u v hu hv he (.inr (.inr (by omega)))
   ·rw [if_neg h2]; exact rmul_end hx hx2 hy hy2 hg _ (by omega) u v hu hv he (.inr (.inl (by omega)))
theorem rmul_is {x y : Int} (hx : 0 ≤ x) (hx2 : x ≤ 18446744073709551615) (hy : 0 ≤ y) (hy2 : y ≤ 18446744073709551615) (k : Nat) (hk : 2 * (x + y).toNat + 71 ≤ k) : countwheelref35_Multiple.f k x y = some (mulV x y) := by
 obtain ⟨k, rfl⟩ : ∃ m, k = m + 1 := ⟨k - 1, by omega⟩
 simp only [countwheelref35_Multiple.f, countwheelref35_Multiple.j0]
 unfold mulV
 by_cases h0 : x = 0
 ·simp [h0]
 ·rw [if_neg h0]
  by_cases h1 : y = 0
  ·simp [h0, h1]
  ·rw [if_neg (by simpa using h1), if_neg (by omega)]
   exact rmul_l0 hx hx2 hy hy2 (Int.gcd_pos_of_ne_zero_left y h0) (x + y).toNat k x y hx hy (Nat.le_refl _) (by omega) rfl
/-- The multiple of all frames. -/
def spanV (ss : List S46) : Int := ss.foldl (fun n s => mulV n s.f1) 1
theorem spanV_bd : ∀ (ss : List S46) (n : Int), 0 ≤ n → n ≤ 18446744073709551615 → (∀ s ∈ ss, 0 ≤ s.f1) → 0 ≤ ss.foldl (fun n s => mulV n s.f1) n ∧ ss.foldl (fun n s => mulV n s.f1) n ≤ 18446744073709551615
 | [], n, h0, h1, _ => ⟨h0, h1⟩
 | s :: ss, n, h0, h1, h => spanV_bd ss _ (mulV_nn h0 (h s (by simp))) (mulV_le _ _) (fun x hx => h x (by simp [hx]))
theorem span_l0 {ss : List S46} (hs : ss.length ≤ 1000) (hf : ∀ s ∈ ss, 0 ≤ s.f1 ∧ s.f1 ≤ 1048576) : ∀ (d i k : Nat) (n : Int), i + d = ss.length → d + 1048580 ≤ k → 0 ≤ n → n ≤ 18446744073709551615 → hyper_Span.l0 k n ss (ss.length : Int) (i : Int) = some ((ss.drop i).foldl (fun n s => mulV n s.f1) n)
 | 0, i, k, n, h, hk, h0, h1 => by
  obtain ⟨k, rfl⟩ : ∃ m, k = m + 1 := ⟨k - 1, by omega⟩
  simp only [hyper_Span.l0]
  rw [if_neg (by omega), List.drop_of_length_le (by omega)]; rfl
 | d + 1, i, k, n, h, hk, h0, h1 => by
  obtain ⟨k, rfl⟩ : ∃ m, k = m + 1 := ⟨k - 1, by omega⟩
  simp only [hyper_Span.l0]
  have hm : 0 ≤ (rd_T46 ss (i : Int)).f1 ∧ (rd_T46 ss (i : Int)).f1 ≤ 1048576 := hf _ (Fin.memD ss z46 i (by omega))
  rw [if_pos (by omega), if_pos (by omega), if_pos (by omega), show IntKind.u64.wrap (rd_T46 ss i).f1 = (rd_T46 ss i).f1 from IntWalk.u64_in _ ⟨hm.1, by omega⟩, mul_is h0 h1 hm.1 (by omega) k (by omega), Option.bind_some, Fin.wsucc (by omega),
   span_l0 hs hf d (i + 1) k _ (by omega) (by omega) (mulV_nn h0 hm.1) (mulV_le _ _), Fin.dropD ss z46 i (by omega)]
  rfl
theorem span_is {ep fi : Int} {ps : List S84} {ss : List S46} {qs : List S95} {av : List S125} (hs : ss.length ≤ 1000) (hf : ∀ s ∈ ss, 0 ≤ s.f1 ∧ s.f1 ≤ 1048576) (k : Nat) (hk : 1050000 ≤ k) : hyper_Span.f k ep fi ps ss qs av = some (spanV ss) :=
 span_l0 hs hf ss.length 0 k 1 (by omega) (by omega) (by omega) (by omega)
theorem awake_is (k : Nat) (hk : 2100 ≤ k) : countwheellaw35_awake.f k = some true := by
 unfold countwheellaw35_awake.f
 rw [div_is 12 18 (by decide) (by decide) k (by omega), mul_is (x := 4) (y := 6) (by decide) (by decide) (by decide) (by decide) k (by simp; omega)]
 rfl
end Go.Proofs.Ytnniejaknnpcjaa.Hyp
