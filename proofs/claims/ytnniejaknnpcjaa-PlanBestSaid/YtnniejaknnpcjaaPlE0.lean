/- The earliest end first: where budgets can be given at all, they are (plain). -/
import Derived.Test.YtnniejaknnpcjaaMine
namespace Go.Proofs.Ytnniejaknnpcjaa.Edf
set_option linter.unusedVariables false
set_option linter.unusedSimpArgs false
/-- How often, from a on, among n. -/
def cnt (f : Nat → Bool) (a : Nat) : Nat → Nat
  | 0 => 0
  | n + 1 => cnt f a n + if f (a + n) then 1 else 0
theorem cnt_split (f : Nat → Bool) (a n : Nat) : ∀ k, cnt f a (n + k) = cnt f a n + cnt f (a + n) k
  | 0 => rfl
  | k + 1 => by
    show cnt f a (n + k) + (if f (a + (n + k)) = true then 1 else 0) = _
    rw [cnt_split f a n k]
    simp only [cnt]
    rw [show a + (n + k) = a + n + k by omega]
    omega
theorem cnt_zero (f : Nat → Bool) (a : Nat) : ∀ n, (∀ t, a ≤ t → t < a + n → f t = false) → cnt f a n = 0
  | 0, _ => rfl
  | n + 1, h => by
    simp only [cnt]
    rw [cnt_zero f a n (fun t h1 h2 => h t h1 (by omega)), h (a + n) (by omega) (by omega)]
    simp
theorem cnt_mono (f : Nat → Bool) (a : Nat) {n k : Nat} (h : n ≤ k) : cnt f a n ≤ cnt f a k := by
  obtain ⟨j, rfl⟩ : ∃ j, k = n + j := ⟨k - n, by omega⟩
  rw [cnt_split]; omega
def sumN (f : Nat → Nat) : Nat → Nat
  | 0 => 0
  | m + 1 => sumN f m + f m
theorem sumN_add (f g : Nat → Nat) : ∀ m, sumN (fun k => f k + g k) m = sumN f m + sumN g m
  | 0 => rfl
  | m + 1 => by simp only [sumN]; rw [sumN_add f g m]; omega
theorem sumN_le {f g : Nat → Nat} : ∀ {m}, (∀ k, k < m → f k ≤ g k) → sumN f m ≤ sumN g m
  | 0, _ => Nat.le_refl _
  | m + 1, h => by simp only [sumN]; have := sumN_le (m := m) (fun k hk => h k (by omega)); have := h m (by omega); omega
theorem sumN_lt {f g : Nat → Nat} {i : Nat} : ∀ {m}, (∀ k, k < m → f k ≤ g k) → i < m → f i < g i → sumN f m < sumN g m
  | 0, _, hi, _ => by omega
  | m + 1, h, hi, hl => by
    simp only [sumN]
    by_cases e : i = m
    · subst e
      have := sumN_le (m := i) (fun k hk => h k (by omega)); omega
    · have := sumN_lt (m := m) (fun k hk => h k (by omega)) (by omega) hl
      have := h m (by omega); omega
theorem sumN_one (k0 : Nat) : ∀ m, sumN (fun k => if k0 = k then 1 else 0) m = if k0 < m then 1 else 0
  | 0 => rfl
  | m + 1 => by
    simp only [sumN]
    rw [sumN_one k0 m]
    by_cases h1 : k0 < m
    · rw [if_pos h1, if_neg (by omega), if_pos (by omega)]
    · by_cases h2 : k0 = m
      · rw [if_neg h1, if_pos h2, if_pos (by omega)]
      · rw [if_neg h1, if_neg h2, if_neg (by omega)]
theorem sumN_zero : ∀ m, sumN (fun _ => 0) m = 0
  | 0 => rfl
  | m + 1 => by simp only [sumN]; rw [sumN_zero m]
theorem sumN_congr {f g : Nat → Nat} : ∀ {m}, (∀ k, k < m → f k = g k) → sumN f m = sumN g m
  | 0, _ => rfl
  | m + 1, h => by simp only [sumN]; rw [sumN_congr (m := m) (fun k hk => h k (by omega)), h m (by omega)]
/-- Each tick is somebody's. -/
theorem all_sum (ch : Nat → Option Nat) (m a : Nat) : ∀ n, (∀ t, a ≤ t → t < a + n → ∃ k, k < m ∧ ch t = some k) → sumN (fun k => cnt (fun t => ch t == some k) a n) m = n
  | 0, _ => by simp only [cnt]; exact sumN_zero m
  | n + 1, h => by
    simp only [cnt]
    rw [sumN_add, all_sum ch m a n (fun t h1 h2 => h t h1 (by omega))]
    obtain ⟨k0, hk, he⟩ := h (a + n) (by omega) (by omega)
    have : sumN (fun k => if (ch (a + n) == some k) = true then 1 else 0) m = sumN (fun k => if k0 = k then 1 else 0) m :=
      sumN_congr (fun k _ => by rw [he]; simp)
    rw [this, sumN_one, if_pos hk]
/-- No tick is two's. -/
theorem sum_le (w : Nat → Int) (id : Nat → Int) (hid : ∀ j k, id j = id k → j = k) (m a : Nat) : ∀ n, sumN (fun k => cnt (fun t => w t == id k) a n) m ≤ n
  | 0 => by simp only [cnt]; rw [sumN_zero m]; exact Nat.le_refl _
  | n + 1 => by
    simp only [cnt]
    rw [sumN_add]
    have ih := sum_le w id hid m a n
    have : sumN (fun k => if (w (a + n) == id k) = true then 1 else 0) m ≤ 1 := by
      by_cases h : ∃ k0, w (a + n) = id k0
      · obtain ⟨k0, hk0⟩ := h
        rw [sumN_congr (g := fun k => if k0 = k then 1 else 0) (fun k _ => by
          rw [hk0]
          by_cases e : k0 = k
          · subst e; simp
          · rw [if_neg e, if_neg (by simp; exact fun h => e (hid _ _ h))]), sumN_one]
        split <;> omega
      · rw [sumN_congr (g := fun _ => 0) (fun k _ => by rw [if_neg (by simp; exact fun hh => h ⟨k, hh⟩)]), sumN_zero]
        omega
    omega
theorem mod_gap {p a b : Nat} (ha : a % p = 0) (hb : b % p = 0) (h : a < b) : a + p ≤ b := by
  have h1 := Nat.div_add_mod a p
  have h2 := Nat.div_add_mod b p
  rw [ha, Nat.add_zero] at h1
  rw [hb, Nat.add_zero] at h2
  have h3 : a / p < b / p := by
    rcases Nat.lt_or_ge (a / p) (b / p) with h | h
    · exact h
    · have := Nat.mul_le_mul_left p h; omega
  have h4 := Nat.mul_le_mul_left p (show a / p + 1 ≤ b / p from h3)
  rw [Nat.mul_add, Nat.mul_one] at h4
  omega
/-- A run of ticks: what is left ahead of each tick (lf), behind the new budgets (rf), whose it is (ch). -/
structure Run (m : Nat) (p : Nat → Nat) (B : Nat → Int) (lf rf : Nat → Nat → Int) (ch : Nat → Option Nat) (d : Nat) : Prop where
  pos : ∀ k, k < m → 1 ≤ p k
  bud : ∀ k, k < m → 0 ≤ B k
  at0 : ∀ k, k < m → lf 0 k = 0
  new : ∀ t k, t < d → k < m → t % p k = 0 → rf t k = B k
  keep : ∀ t k, t < d → k < m → t % p k ≠ 0 → rf t k = lf t k
  tick : ∀ t k, t < d → k < m → lf (t + 1) k = rf t k - if ch t = some k then 1 else 0
  mine : ∀ t k, t < d → ch t = some k → k < m ∧ 0 < rf t k ∧ ∀ j, j < m → 0 < rf t j → t - t % p k + p k ≤ t - t % p j + p j
  none : ∀ t, t < d → ch t = none → ∀ k, k < m → rf t k ≤ 0
namespace Run
variable {m : Nat} {p : Nat → Nat} {B : Nat → Int} {lf rf : Nat → Nat → Int} {ch : Nat → Option Nat} {d : Nat}
theorem nn (R : Run m p B lf rf ch d) {k : Nat} (hk : k < m) : ∀ t, t ≤ d → 0 ≤ lf t k
  | 0, _ => by rw [R.at0 k hk]; exact Int.le_refl _
  | t + 1, ht => by
    have ih := R.nn hk t (by omega)
    rw [R.tick t k (by omega) hk]
    split
    · rename_i hc
      have := (R.mine t k (by omega) hc).2.1
      omega
    · by_cases e : t % p k = 0
      · rw [R.new t k (by omega) hk e]; have := R.bud k hk; omega
      · rw [R.keep t k (by omega) hk e]; omega
theorem mod_in {q s j : Nat} (hs : s % q = 0) (hj : j < q) : (s + j) % q = j := by
  rw [Nat.add_mod, hs, Nat.zero_add, Nat.mod_mod, Nat.mod_eq_of_lt hj]
/-- Within a period: what is left is the budget but for what was given. -/
theorem period (R : Run m p B lf rf ch d) {k s : Nat} (hk : k < m) (hs : s % p k = 0) : ∀ j, j < p k → s + j < d →
    rf (s + j) k = B k - cnt (fun t => ch t == some k) s j ∧ lf (s + j + 1) k = B k - cnt (fun t => ch t == some k) s (j + 1)
  | 0, h1, h2 => by
    have e1 : rf (s + 0) k = B k := R.new s k (by omega) hk hs
    refine ⟨by simp only [cnt]; rw [e1]; omega, ?_⟩
    rw [R.tick (s + 0) k (by omega) hk, e1]
    simp only [cnt, Nat.add_zero, beq_iff_eq]
    split <;> omega
  | j + 1, h1, h2 => by
    have ih := (R.period hk hs j (by omega) (by omega)).2
    have e1 : rf (s + (j + 1)) k = lf (s + (j + 1)) k := R.keep _ k (by omega) hk (by rw [mod_in hs h1]; omega)
    have e2 : rf (s + (j + 1)) k = B k - cnt (fun t => ch t == some k) s (j + 1) := by rw [e1]; exact ih
    refine ⟨e2, ?_⟩
    rw [R.tick (s + (j + 1)) k (by omega) hk, e2]
    show _ = B k - ((cnt (fun t => ch t == some k) s (j + 1) + if (ch (s + (j + 1)) == some k) = true then 1 else 0 : Nat) : Int)
    simp only [beq_iff_eq]
    split <;> omega
theorem period_end (R : Run m p B lf rf ch d) {k s : Nat} (hk : k < m) (hs : s % p k = 0) (hd : s + p k ≤ d) : lf (s + p k) k = B k - cnt (fun t => ch t == some k) s (p k) := by
  have hp := R.pos k hk
  have := (R.period hk hs (p k - 1) (by omega) (by omega)).2
  rwa [show s + (p k - 1) + 1 = s + p k by omega, show p k - 1 + 1 = p k by omega] at this
/-- A tick, as one of its period. -/
theorem split (q t : Nat) : (t - t % q) % q = 0 ∧ t - t % q ≤ t ∧ t = (t - t % q) + t % q := by
  have h1 := Nat.div_add_mod t q
  have h2 := Nat.mod_le t q
  refine ⟨?_, by omega, by omega⟩
  rw [show t - t % q = q * (t / q) by omega]
  exact Nat.mul_mod_right q _
theorem rf_le (R : Run m p B lf rf ch d) {k a b : Nat} (hk : k < m) (hab : a ≤ b) (hb : b < d) (hs : a - a % p k = b - b % p k) : rf b k ≤ rf a k := by
  have hp := R.pos k hk
  obtain ⟨h1, h2, h3⟩ := split (p k) a
  obtain ⟨g1, g2, g3⟩ := split (p k) b
  have ma := Nat.mod_lt a hp
  have mb := Nat.mod_lt b hp
  have ea := (R.period hk h1 (a % p k) ma (by omega)).1
  have eb := (R.period hk g1 (b % p k) mb (by omega)).1
  rw [← h3] at ea
  rw [← g3] at eb
  rw [ea, eb, hs]
  have := cnt_mono (fun t => ch t == some k) (b - b % p k) (show a % p k ≤ b % p k by omega)
  omega
/-- Good: a tick goes to one whose period ends by d. -/
def Good (p : Nat → Nat) (ch : Nat → Option Nat) (d t : Nat) : Prop := ∃ k, ch t = some k ∧ t - t % p k + p k ≤ d
theorem back (P : Nat → Prop) (d : Nat) : ∀ a, (∀ t, a ≤ t → t < d → P t) → ∃ t0, t0 ≤ a ∧ (∀ t, t0 ≤ t → t < d → P t) ∧ (t0 = 0 ∨ ¬ P (t0 - 1))
  | 0, h => ⟨0, Nat.le_refl _, h, .inl rfl⟩
  | a + 1, h => by
    by_cases e : P a
    · obtain ⟨t0, h1, h2, h3⟩ := back P d a (fun t ht hd => by
        by_cases e2 : t = a
        · rw [e2]; exact e
        · exact h t (by omega) hd)
      exact ⟨t0, by omega, h2, h3⟩
    · exact ⟨a + 1, Nat.le_refl _, h, .inr (by simpa using e)⟩
theorem no_miss (R : Run m p B lf rf ch d) (w : Nat → Int) (id : Nat → Int) (hid : ∀ j k, id j = id k → j = k)
    (hW : ∀ k s, k < m → s % p k = 0 → s + p k ≤ d → B k ≤ cnt (fun t => w t == id k) s (p k)) {i : Nat} (hi : i < m) (hd : 0 < d) (hdi : d % p i = 0) : lf d i ≤ 0 := by
  rcases Int.lt_or_le 0 (lf d i) with hbad | h
  case inr => exact h
  exfalso
  have hpi := R.pos i hi
  have hle : p i ≤ d := by have := mod_gap (p := p i) (a := 0) (b := d) (Nat.zero_mod _) hdi hd; omega
  have hsd : (d - p i) % p i = 0 := by
    have := Nat.sub_mul_mod (x := d) (k := 1) (n := p i) (by omega)
    rw [Nat.mul_one] at this; rw [this]; exact hdi
  have hend := R.period_end hi hsd (by omega)
  rw [show d - p i + p i = d by omega] at hend
  -- the last period of i
  have good0 : ∀ t, d - p i ≤ t → t < d → Good p ch d t := by
    intro t h1 h2
    obtain ⟨j, rfl⟩ : ∃ j, t = d - p i + j := ⟨t - (d - p i), by omega⟩
    have hrf := (R.period hi hsd j (by omega) h2).1
    have hm := cnt_mono (fun t => ch t == some i) (d - p i) (show j ≤ p i by omega)
    have hpos : 0 < rf (d - p i + j) i := by omega
    cases hc : ch (d - p i + j) with
    | none => have := R.none _ h2 hc i hi; omega
    | some k =>
      have hmod : (d - p i + j) % p i = j := mod_in hsd (by omega)
      have := (R.mine _ k h2 hc).2.2 i hi hpos
      rw [hmod] at this
      exact ⟨k, hc, by omega⟩
  obtain ⟨t0, ht0, hgood, hstop⟩ := back (Good p ch d) d (d - p i) good0
  -- what is served from t0 on lies in periods that begin there, and end by d
  have served : ∀ t k, t0 ≤ t → t < d → ch t = some k → k < m ∧ t - t % p k + p k ≤ d ∧ t0 ≤ t - t % p k := by
    intro t k h1 h2 hc
    obtain ⟨k', hc', hen⟩ := hgood t h1 h2
    rw [hc] at hc'
    obtain rfl := Option.some.inj hc'
    obtain ⟨hk, hpos, _⟩ := R.mine t k h2 hc
    refine ⟨hk, hen, ?_⟩
    rcases Nat.lt_or_ge (t - t % p k) t0 with hlt | hge
    case inr => exact hge
    exfalso
    have hpk := R.pos k hk
    have h00 : 0 < t0 := by omega
    rcases hstop with h | hng
    · omega
    obtain ⟨g1, g2, g3⟩ := split (p k) t
    have mt := Nat.mod_lt t hpk
    have hsame : (t0 - 1) - (t0 - 1) % p k = t - t % p k := by
      obtain ⟨j, hj⟩ : ∃ j, t0 - 1 = (t - t % p k) + j := ⟨t0 - 1 - (t - t % p k), by omega⟩
      rw [hj, mod_in g1 (by omega)]; omega
    have hrl := R.rf_le hk (show t0 - 1 ≤ t by omega) h2 hsame
    have hpos2 : 0 < rf (t0 - 1) k := by omega
    cases hc2 : ch (t0 - 1) with
    | none => have := R.none (t0 - 1) (by omega) hc2 k hk; omega
    | some k2 =>
      have := (R.mine (t0 - 1) k2 (by omega) hc2).2.2 k hk hpos2
      exact hng ⟨k2, hc2, by omega⟩
  -- owner by owner
  have cmp : ∀ k, k < m → cnt (fun t => ch t == some k) t0 (d - t0) ≤ cnt (fun t => w t == id k) t0 (d - t0) ∧ (k = i → cnt (fun t => ch t == some k) t0 (d - t0) < cnt (fun t => w t == id k) t0 (d - t0)) := by
    intro k hk
    have hpk := R.pos k hk
    -- the periods, one by one
    have mid : ∀ c q, c % p k = 0 → c + q * p k ≤ d → cnt (fun t => ch t == some k) c (q * p k) ≤ cnt (fun t => w t == id k) c (q * p k) := by
      intro c q hc
      induction q with
      | zero => intro _; simp [cnt]
      | succ q ih =>
        intro hq
        rw [Nat.add_mul, Nat.one_mul] at hq ⊢
        have h1 := ih (by omega)
        have hcm : (c + q * p k) % p k = 0 := by rw [Nat.add_mul_mod_self_right]; exact hc
        have h2 := R.period_end hk hcm (by omega)
        have h3 := R.nn hk (c + q * p k + p k) (by omega)
        have h4 := hW k (c + q * p k) hk hcm (by omega)
        rw [cnt_split, cnt_split]
        omega
    -- ahead of the first period that begins, and behind the last one that ends, nothing is served
    obtain ⟨c, hc0, hct, hcl⟩ : ∃ c, c % p k = 0 ∧ t0 ≤ c ∧ c < t0 + p k := by
      obtain ⟨g1, g2, g3⟩ := split (p k) (t0 + p k - 1)
      have := Nat.mod_lt (t0 + p k - 1) hpk
      exact ⟨_, g1, by omega, by omega⟩
    have head : ∀ n, t0 + n ≤ c → t0 + n ≤ d → cnt (fun t => ch t == some k) t0 n = 0 := by
      intro n hn hnd
      refine cnt_zero _ _ _ (fun t h1 h2 => ?_)
      rw [beq_eq_false_iff_ne]
      intro hch
      obtain ⟨_, _, h3⟩ := served t k h1 (by omega) hch
      obtain ⟨g1, g2, g3⟩ := split (p k) t
      rcases Nat.lt_or_ge (t - t % p k) c with h4 | h4
      · have := mod_gap g1 hc0 h4; omega
      · omega
    rcases Nat.lt_or_ge d c with hdc | hdc
    · have h0 := head (d - t0) (by omega) (by omega)
      refine ⟨by omega, fun e => ?_⟩
      subst e
      exfalso
      have hm : (d - p k) % p k = 0 := hsd
      rcases Nat.lt_or_ge (d - p k) c with h4 | h4
      · have := mod_gap hm hc0 h4; omega
      · omega
    · -- c ≤ d
      have hh := head (c - t0) (by omega) (by omega)
      obtain ⟨q, e, he, hed, hde⟩ : ∃ q e, e = c + q * p k ∧ e ≤ d ∧ d < e + p k := by
        refine ⟨(d - c) / p k, _, rfl, ?_, ?_⟩
        · have := Nat.div_mul_le_self (d - c) (p k); omega
        · have h1 := Nat.div_add_mod (d - c) (p k)
          have h2 := Nat.mod_lt (d - c) hpk
          rw [Nat.mul_comm] at h1
          omega
      have hem : e % p k = 0 := by rw [he, Nat.add_mul_mod_self_right]; exact hc0
      have tail : cnt (fun t => ch t == some k) e (d - e) = 0 := by
        refine cnt_zero _ _ _ (fun t h1 h2 => ?_)
        rw [beq_eq_false_iff_ne]
        intro hch
        obtain ⟨_, h3, _⟩ := served t k (by omega) (by omega) hch
        obtain ⟨j, rfl⟩ : ∃ j, t = e + j := ⟨t - e, by omega⟩
        rw [mod_in hem (by omega)] at h3
        omega
      have s1 := cnt_split (fun t => ch t == some k) t0 (c - t0) (d - c)
      have s2 := cnt_split (fun t => w t == id k) t0 (c - t0) (d - c)
      rw [show t0 + (c - t0) = c by omega, show c - t0 + (d - c) = d - t0 by omega] at s1 s2
      have s3 := cnt_split (fun t => ch t == some k) c (q * p k) (d - e)
      have s4 := cnt_split (fun t => w t == id k) c (q * p k) (d - e)
      rw [← he, show q * p k + (d - e) = d - c by omega] at s3 s4
      have hmid := mid c q hc0 (by omega)
      refine ⟨by omega, fun ek => ?_⟩
      subst ek
      -- d is an end of a period of i
      have hed2 : e = d := by
        rcases Nat.lt_or_ge e d with h4 | h4
        · have := mod_gap hem hdi h4; omega
        · omega
      have hq1 : 1 ≤ q := by
        rcases Nat.eq_zero_or_pos q with h4 | h4
        · exfalso
          subst h4
          rw [Nat.zero_mul, Nat.add_zero] at he
          have hm : (d - p k) % p k = 0 := hsd
          rcases Nat.lt_or_ge (d - p k) c with h5 | h5
          · omega
          · omega
        · exact h4
      obtain ⟨q', rfl⟩ : ∃ q', q = q' + 1 := ⟨q - 1, by omega⟩
      rw [Nat.add_mul, Nat.one_mul] at he
      have hm1 := mid c q' hc0 (by omega)
      have s5 := cnt_split (fun t => ch t == some k) c (q' * p k) (p k)
      have s6 := cnt_split (fun t => w t == id k) c (q' * p k) (p k)
      have hcq : c + q' * p k = d - p k := by omega
      rw [hcq] at s5 s6
      have hwl := hW k (d - p k) hk hsd (by omega)
      rw [show (q' + 1) * p k = q' * p k + p k by rw [Nat.add_mul, Nat.one_mul]] at s3 s4
      rw [s5] at s3
      rw [s6] at s4
      omega
  have hsum := all_sum ch m t0 (d - t0) (fun t h1 h2 => by
    obtain ⟨k, hc, _⟩ := hgood t h1 (by omega)
    exact ⟨k, (R.mine t k (by omega) hc).1, hc⟩)
  have hws := sum_le w id hid m t0 (d - t0)
  have hlt := sumN_lt (f := fun k => cnt (fun t => ch t == some k) t0 (d - t0)) (g := fun k => cnt (fun t => w t == id k) t0 (d - t0)) (i := i) (m := m) (fun k hk => (cmp k hk).1) hi ((cmp i hi).2 rfl)
  omega
end Run
end Go.Proofs.Ytnniejaknnpcjaa.Edf
