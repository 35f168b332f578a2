/- plan.Make gives all budgets that can be given (plain). -/
import Derived.Test.YtnniejaknnpcjaaPlE0
import Derived.Test.YtnniejaknnpcjaaPlM2
import Derived.Test.YtnniejaknnpcjaaPPlanBestx3
namespace Go.Proofs.Ytnniejaknnpcjaa.PlW
open Go.RowKit Go.Proofs.YtnniejaknnpcjaaW.PrintWords Go.Proofs.YtnniejaknnpcjaaW.PrintLast Go.Proofs.YtnniejaknnpcjaaW.PrintMore Go.Proofs.Ytnniejaknnpcjaa.Mine Go.Proofs.Ytnniejaknnpcjaa.PPlanWords
open Go.Proofs.Ytnniejaknnpcjaa.Edf (cnt Run)
set_option linter.unusedVariables false
set_option linter.unusedSimpArgs false
def pN (ns : List S69) (k : Nat) : Nat := (ns.getD k z69).f1.toNat
def bN (ns : List S69) (k : Nat) : Int := (ns.getD k z69).f2
def lfN (ns : List S69) (t k : Nat) : Int := match mk ns t with | some s => s.1.getD k 0 | none => 0
def rfL (ns : List S69) (t : Nat) : List Int := match mk ns t with | some s => (refill ns t s.1 ns.length).getD [] | none => []
def rfN (ns : List S69) (t k : Nat) : Int := (rfL ns t).getD k 0
def chN (ns : List S69) (t : Nat) : Option Nat := if (nextR ns (rfL ns t) t ns.length).2 = true then some (nextR ns (rfL ns t) t ns.length).1 else none
theorem getD_set (l : List Int) (i k : Nat) (x : Int) (h : k < l.length) : (l.set i x).getD k 0 = if i = k then x else l.getD k 0 := by
  rw [List.getD_eq_getElem?_getD, List.getElem?_set]
  by_cases e : i = k
  · subst e; rw [if_pos rfl, if_pos h, if_pos rfl]; rfl
  · rw [if_neg e, if_neg e, List.getD_eq_getElem?_getD]
theorem refill_at {ns : List S69} {t : Nat} {left : List Int} (hl : left.length = ns.length) : ∀ i l, refill ns t left i = some l → ∀ k, k < ns.length →
    l.getD k 0 = if k < i ∧ (t : Int) % (ns.getD k z69).f1 = 0 then (ns.getD k z69).f2 else left.getD k 0
  | 0, l, h, k, hk => by
    simp only [refill, Option.some.injEq] at h
    rw [if_neg (by omega), h]
  | i + 1, l, h, k, hk => by
    simp only [refill] at h
    cases hq : refill ns t left i with
    | none => rw [hq] at h; cases h
    | some l2 =>
      have ih := refill_at hl i l2 hq k hk
      have hlen := refill_len ns t left i l2 hq
      rw [hq] at h
      simp only [Option.bind_some] at h
      split at h
      · rename_i hc
        split at h
        · cases h
        · cases h
          rw [getD_set _ _ _ _ (by omega), ih]
          by_cases e : i = k
          · subst e; rw [if_pos rfl, if_pos ⟨by omega, hc⟩]
          · rw [if_neg e]
            by_cases e2 : k < i
            · by_cases e3 : (t : Int) % (ns.getD k z69).f1 = 0
              · rw [if_pos ⟨e2, e3⟩, if_pos ⟨by omega, e3⟩]
              · rw [if_neg (fun h => e3 h.2), if_neg (fun h => e3 h.2)]
            · rw [if_neg (fun h => e2 h.1), if_neg (by omega)]
      · rename_i hc
        cases h
        rw [ih]
        by_cases e : i = k
        · subst e; rw [if_neg (by omega), if_neg (fun h => hc h.2)]
        · by_cases e2 : k < i
          · by_cases e3 : (t : Int) % (ns.getD k z69).f1 = 0
            · rw [if_pos ⟨e2, e3⟩, if_pos ⟨by omega, e3⟩]
            · rw [if_neg (fun h => e3 h.2), if_neg (fun h => e3 h.2)]
          · rw [if_neg (fun h => e2 h.1), if_neg (by omega)]
theorem refill_fail {ns : List S69} {t : Nat} {left : List Int} (hl : left.length = ns.length) : ∀ i, i ≤ ns.length → refill ns t left i = none → ∃ j, j < i ∧ (t : Int) % (ns.getD j z69).f1 = 0 ∧ 0 < left.getD j 0
  | 0, _, h => by simp [refill] at h
  | i + 1, hi, h => by
    simp only [refill] at h
    cases hq : refill ns t left i with
    | none => obtain ⟨j, h1, h2⟩ := refill_fail hl i (by omega) hq; exact ⟨j, by omega, h2⟩
    | some l2 =>
      have ha := refill_at hl i l2 hq i (by omega)
      rw [if_neg (by omega)] at ha
      rw [hq] at h
      simp only [Option.bind_some] at h
      split at h
      · rename_i hc
        split at h
        · rename_i hp; exact ⟨i, by omega, hc, by omega⟩
        · cases h
      · cases h
theorem next_spec (ns : List S69) (left : List Int) (t : Nat) : ∀ i, ((nextR ns left t i).2 = true → ∀ j, j < i → 0 < left.getD j 0 → endT (ns.getD (nextR ns left t i).1 z69) t ≤ endT (ns.getD j z69) t) ∧ ((nextR ns left t i).2 = false → ∀ j, j < i → left.getD j 0 ≤ 0)
  | 0 => ⟨fun _ j h => by omega, fun _ j h => by omega⟩
  | i + 1 => by
    obtain ⟨h1, h2⟩ := next_spec ns left t i
    simp only [nextR]
    by_cases c : 0 < left.getD i 0 ∧ ((nextR ns left t i).2 = false ∨ endT (ns.getD i z69) t < endT (ns.getD (nextR ns left t i).1 z69) t)
    · rw [if_pos c]
      refine ⟨fun _ j hj hp => ?_, fun h => by cases h⟩
      by_cases e : j = i
      · subst e; exact Int.le_refl _
      · rcases c.2 with hf | hlt
        · have := h2 hf j (by omega); omega
        · cases hb : (nextR ns left t i).2 with
          | false => have := h2 hb j (by omega); omega
          | true => have := h1 hb j (by omega) hp; simp only; omega
    · rw [if_neg c]
      refine ⟨fun hb j hj hp => ?_, fun hb j hj => ?_⟩
      · by_cases e : j = i
        · subst e
          rcases Int.lt_or_le (endT (ns.getD j z69) t) (endT (ns.getD (nextR ns left t j).1 z69) t) with h | h
          · exact absurd ⟨hp, .inr h⟩ c
          · exact h
        · exact h1 hb j (by omega) hp
      · by_cases e : j = i
        · subst e
          rcases Int.lt_or_le 0 (left.getD j 0) with h | h
          · exact absurd ⟨h, .inl hb⟩ c
          · exact h
        · exact h2 hb j (by omega)
theorem p_is {ns : List S69} (hp : Per ns) {k : Nat} (hk : k < ns.length) : (ns.getD k z69).f1 = (pN ns k : Int) ∧ 1 ≤ pN ns k := by
  have := hp _ (getD_mem ns z69 k hk)
  unfold pN
  omega
theorem end_nat {ns : List S69} (hp : Per ns) {k : Nat} (hk : k < ns.length) (t : Nat) : endT (ns.getD k z69) t = ((t - t % pN ns k + pN ns k : Nat) : Int) := by
  obtain ⟨h1, h2⟩ := p_is hp hk
  unfold endT
  rw [h1]
  have := Nat.mod_le t (pN ns k)
  omega
theorem mod_nat {ns : List S69} (hp : Per ns) {k : Nat} (hk : k < ns.length) (t : Nat) : (t : Int) % (ns.getD k z69).f1 = 0 ↔ t % pN ns k = 0 := by
  rw [(p_is hp hk).1]
  omega
theorem rf_is {ns : List S69} {t : Nat} {s : List Int × List Int} {l : List Int} (hm : mk ns t = some s) (hr : refill ns t s.1 ns.length = some l) : rfL ns t = l := by
  unfold rfL
  rw [hm]
  simp only
  rw [hr]; rfl
theorem run_of {ns : List S69} (hper : Per ns) (hbud : Bud ns) {d : Nat} (hs : ∀ t, t ≤ d → ∃ s, mk ns t = some s) : Run ns.length (pN ns) (bN ns) (lfN ns) (rfN ns) (chN ns) d := by
  have step : ∀ t, t < d → ∃ s l, mk ns t = some s ∧ refill ns t s.1 ns.length = some l ∧ mk ns (t + 1) = some (tickR ns t l s.2) ∧ rfL ns t = l ∧ s.1.length = ns.length ∧ l.length = ns.length := by
    intro t ht
    obtain ⟨s, h1⟩ := hs t (by omega)
    obtain ⟨s2, h2⟩ := hs (t + 1) (by omega)
    obtain ⟨l, h3, h4⟩ := mk_step h1 h2 (Nat.lt_succ_self t)
    have h5 := (mk_len ns t s h1).1
    exact ⟨s, l, h1, h3, h4, rf_is h1 h3, h5, (refill_len ns t s.1 _ l h3).trans h5⟩
  refine ⟨fun k hk => (p_is hper hk).2, fun k hk => (hbud _ (getD_mem ns z69 k hk)).1, fun k hk => ?_, fun t k ht hk h0 => ?_, fun t k ht hk h0 => ?_, fun t k ht hk => ?_, fun t k ht hc => ?_, fun t ht hc k hk => ?_⟩
  · unfold lfN
    simp only [mk]
    rw [List.getD_eq_getElem?_getD, List.getElem?_replicate]
    split <;> rfl
  · obtain ⟨s, l, h1, h3, h4, h5, h6, h7⟩ := step t ht
    unfold rfN
    rw [h5, refill_at h6 _ l h3 k hk, if_pos ⟨hk, (mod_nat hper hk t).2 h0⟩]; rfl
  · obtain ⟨s, l, h1, h3, h4, h5, h6, h7⟩ := step t ht
    unfold rfN lfN
    rw [h5, refill_at h6 _ l h3 k hk, if_neg (fun h => h0 ((mod_nat hper hk t).1 h.2)), h1]
  · obtain ⟨s, l, h1, h3, h4, h5, h6, h7⟩ := step t ht
    unfold lfN rfN chN
    rw [h5, h4]
    unfold tickR
    simp only
    by_cases hc : (nextR ns l t ns.length).2 = true
    · rw [if_pos hc, if_pos hc]
      simp only [Option.some.injEq]
      rw [getD_set _ _ _ _ (by omega)]
      by_cases e : (nextR ns l t ns.length).1 = k
      · rw [if_pos e, if_pos e, e]
      · rw [if_neg e, if_neg e]; omega
    · rw [if_neg hc, if_neg hc]
      simp
  · obtain ⟨s, l, h1, h3, h4, h5, h6, h7⟩ := step t ht
    unfold chN at hc
    rw [h5] at hc
    split at hc
    · rename_i hb
      obtain rfl := Option.some.inj hc
      have hlt := nextR_lt ns l t ns.length hb
      unfold rfN
      rw [h5]
      refine ⟨hlt.1, hlt.2, fun j hj hp => ?_⟩
      have := (next_spec ns l t ns.length).1 hb j hj hp
      rw [end_nat hper hlt.1, end_nat hper hj] at this
      omega
    · cases hc
  · obtain ⟨s, l, h1, h3, h4, h5, h6, h7⟩ := step t ht
    unfold chN at hc
    rw [h5] at hc
    split at hc
    · cases hc
    · rename_i hb
      unfold rfN
      rw [h5]
      exact (next_spec ns l t ns.length).2 (by simpa using hb) k hk
/-- Whose a word's ticks are. -/
def has (w : List Int) (id : Int) (t : Nat) : Bool := w.getD t 0 == id
theorem make_all {ns : List S69} {n : Nat} (hper : Per ns) (hbud : Bud ns) (w : List Int) (hW : ∀ k s, k < ns.length → s % pN ns k = 0 → s + pN ns k ≤ n → bN ns k ≤ cnt (has w (k : Int)) s (pN ns k)) : ∀ d, d ≤ n → ∀ t, t ≤ d → ∃ s, mk ns t = some s
  | 0, _, t, ht => by obtain rfl : t = 0 := by omega
                      exact ⟨_, rfl⟩
  | d + 1, hd, t, ht => by
    have ih := make_all hper hbud w hW d (by omega)
    by_cases e : t = d + 1
    case neg => exact ih t (by omega)
    subst e
    have R := run_of hper hbud ih
    obtain ⟨s, h1⟩ := ih d (Nat.le_refl _)
    have hl := (mk_len ns d s h1).1
    cases hr : refill ns d s.1 ns.length with
    | some l => simp only [mk]; rw [h1]; simp only [Option.bind_some]; rw [hr]; exact ⟨_, rfl⟩
    | none =>
      exfalso
      obtain ⟨j, hj, hm, hp⟩ := refill_fail hl ns.length (Nat.le_refl _) hr
      have hlf : lfN ns d j = s.1.getD j 0 := by unfold lfN; rw [h1]
      rcases Nat.eq_zero_or_pos d with h0 | h0
      · have := R.at0 j hj; rw [← h0, hlf] at this; omega
      · have := R.no_miss (fun t => w.getD t 0) (fun k => (k : Int)) (fun a b h => by have h2 : (a : Int) = (b : Int) := h; omega) (fun k s hk hs hsd => hW k s hk hs (by omega)) hj h0 ((mod_nat hper hj d).1 hm)
        omega
/-- All budgets are given: to the end, and in each period. -/
theorem make_best {ns : List S69} {n : Nat} (hn : 0 < n) (hper : Per ns) (hbud : Bud ns) (hmod : ∀ k, k < ns.length → n % pN ns k = 0) (hid : ∀ k, k < ns.length → (ns.getD k z69).f0 = (k : Int)) (w : List Int)
    (hW : ∀ k s, k < ns.length → s % pN ns k = 0 → s + pN ns k ≤ n → bN ns k ≤ cnt (has w (k : Int)) s (pN ns k)) :
    ∃ s, mk ns n = some s ∧ (∀ x ∈ s.1, x ≤ 0) ∧ ∀ k a, k < ns.length → a % pN ns k = 0 → a + pN ns k ≤ n → bN ns k ≤ cnt (has s.2 (k : Int)) a (pN ns k) := by
  have hall := make_all hper hbud w hW n (Nat.le_refl _)
  have R := run_of hper hbud hall
  obtain ⟨s, h1⟩ := hall n (Nat.le_refl _)
  have hl := mk_len ns n s h1
  have nomiss : ∀ k e, k < ns.length → 0 < e → e ≤ n → e % pN ns k = 0 → lfN ns e k ≤ 0 := by
    intro k e hk he hen hem
    have R' := run_of hper hbud (fun t ht => hall t (show t ≤ n by omega)) (d := e)
    exact R'.no_miss (fun t => w.getD t 0) (fun k => (k : Int)) (fun a b h => by have h2 : (a : Int) = (b : Int) := h; omega) (fun k s hk hs hsd => hW k s hk hs (by omega)) hk he hem
  -- who has a tick stands there
  have outs : ∀ d s, mk ns d = some s → ∀ t, t < d → s.2.getD t 0 = match chN ns t with | some k => (ns.getD k z69).f0 | none => -1 := by
    intro d
    induction d with
    | zero => intro s h t ht; omega
    | succ d ih =>
      intro s h t ht
      cases hm : mk ns d with
      | none => rw [mk_none ns hm (d + 1) (by omega)] at h; cases h
      | some s0 =>
        obtain ⟨l, h3, h4⟩ := mk_step hm h (Nat.lt_succ_self d)
        rw [h] at h4
        obtain rfl := Option.some.inj h4
        have hl0 := (mk_len ns d s0 hm).2
        have hrf := rf_is hm h3
        have hap : ∀ x : Int, (s0.2 ++ [x]).getD t 0 = if t < d then s0.2.getD t 0 else x := by
          intro x
          rw [List.getD_eq_getElem?_getD]
          by_cases e : t < d
          · rw [if_pos e, List.getElem?_append_left (by omega), List.getD_eq_getElem?_getD]
          · rw [if_neg e, List.getElem?_append_right (by omega), show t - s0.2.length = 0 by omega]; rfl
        by_cases e : t < d
        · unfold tickR
          split <;> (simp only; rw [hap, if_pos e]; exact ih s0 hm t e)
        · obtain rfl : t = d := by omega
          unfold tickR chN
          rw [hrf]
          by_cases hc : (nextR ns l t ns.length).2 = true
          · rw [if_pos hc, if_pos hc]; simp only; rw [hap, if_neg e]
          · rw [if_neg hc, if_neg hc]; simp only; rw [hap, if_neg e]
  refine ⟨s, h1, fun x hx => ?_, fun k a hk ha hle => ?_⟩
  · obtain ⟨k, hk, rfl⟩ := List.mem_iff_getElem.1 hx
    have hkn : k < ns.length := by omega
    have := nomiss k n hkn hn (Nat.le_refl _) (hmod k hkn)
    unfold lfN at this
    rw [h1] at this
    simp only at this
    rwa [List.getD_eq_getElem?_getD, List.getElem?_eq_getElem hk, Option.getD_some] at this
  · have hpk := (p_is hper hk).2
    have he := R.period_end hk ha hle
    have hz := nomiss k (a + pN ns k) hk (by omega) hle (by rw [Nat.add_mod_right]; exact ha)
    have hc : ∀ j, a + j ≤ n → cnt (has s.2 (k : Int)) a j = cnt (fun t => chN ns t == some k) a j := by
      intro j
      induction j with
      | zero => intro _; rfl
      | succ j ih =>
        intro hj
        simp only [cnt]
        rw [ih (by omega)]
        have ho := outs n s h1 (a + j) (by omega)
        have : has s.2 (k : Int) (a + j) = (chN ns (a + j) == some k) := by
          unfold has
          rw [ho]
          cases hch : chN ns (a + j) with
          | none =>
            simp only
            rw [Bool.eq_iff_iff, beq_iff_eq, beq_iff_eq]
            constructor
            · intro h; omega
            · intro h; cases h
          | some q =>
            have hq := (R.mine (a + j) q (by omega) hch).1
            simp only
            rw [hid q hq, Bool.eq_iff_iff]
            simp only [beq_iff_eq, Option.some.injEq]
            omega
        rw [this]
    rw [hc _ hle]
    omega
-- the document's least supply
open Go.Proofs.Ytnniejaknnpcjaa.PPlanBest (countwheelref14_Supply.f countwheelref14_Supply.l0 countwheelref14_Least.f countwheelref14_Least.l0)
theorem supply_loop {l : List Int} {id : Int} {a e : Nat} (hl : l.length ≤ 1000) : ∀ (d i k : Nat), i + d = l.length → d + 1 ≤ k →
    countwheelref14_Supply.l0 k l id (a : Int) (e : Int) ((cnt (has l id) a (min i e - a) : Nat) : Int) (i : Int) = some ((cnt (has l id) a (min l.length e - a) : Nat) : Int)
  | 0, i, k, h, hk => by
    obtain ⟨k, rfl⟩ : ∃ m, k = m + 1 := ⟨k - 1, by omega⟩
    simp only [countwheelref14_Supply.l0]
    rw [if_neg (by omega)]
    obtain rfl : i = l.length := by omega
    rfl
  | d + 1, i, k, h, hk => by
    obtain ⟨k, rfl⟩ : ∃ m, k = m + 1 := ⟨k - 1, by omega⟩
    have ih := supply_loop (l := l) (id := id) (a := a) (e := e) hl d (i + 1) k (by omega) (by omega)
    have hb : ∀ n, cnt (has l id) a n ≤ n := by
      intro n
      induction n with
      | zero => exact Nat.le_refl _
      | succ n ihn => simp only [cnt]; split <;> omega
    have hb2 := hb (min i e - a)
    simp only [countwheelref14_Supply.l0]
    rw [if_pos (by omega), msucc (by omega), msucc (by omega)]
    by_cases c1 : (i : Int) ≥ (a : Int)
    · rw [if_pos c1]
      by_cases c2 : (i : Int) < (e : Int)
      · rw [if_pos c2, if_pos (by omega)]
        have e1 : min (i + 1) e - a = (min i e - a) + 1 := by omega
        have e2 : a + (min i e - a) = i := by omega
        rw [e1] at ih
        simp only [cnt] at ih
        rw [e2] at ih
        have hr : rd l (i : Int) = l.getD i 0 := by unfold rd; rw [Int.toNat_natCast]
        rw [hr]
        by_cases c3 : l.getD i 0 = id
        · rw [if_pos c3]
          rw [if_pos (by unfold has; rw [c3]; simp)] at ih
          exact ih
        · rw [if_neg c3]
          rw [if_neg (by unfold has; simpa using c3)] at ih
          exact ih
      · rw [if_neg c2]
        rw [show min (i + 1) e - a = min i e - a by omega] at ih
        exact ih
    · rw [if_neg c1]
      rw [show min (i + 1) e - a = min i e - a by omega] at ih
      exact ih
theorem supply_is {l : List Int} {id : Int} {a p : Nat} (hl : l.length ≤ 1000) (h : a + p ≤ l.length) (k : Nat) (hk : l.length + 1 ≤ k) : countwheelref14_Supply.f k l id (a : Int) ((a + p : Nat) : Int) = some ((cnt (has l id) a p : Nat) : Int) := by
  have := supply_loop (l := l) (id := id) (a := a) (e := a + p) hl l.length 0 k (by omega) hk
  rw [show min 0 (a + p) - a = 0 by omega, show min l.length (a + p) - a = p by omega] at this
  exact this
theorem least_loop {l : List Int} {id : Int} {p : Nat} (hl : l.length ≤ 1000) (hp : 1 ≤ p) (hp2 : p ≤ 1000) : ∀ (d t k : Nat) (best : Int), t + d * p = l.length → t % p = 0 → d + l.length + 3 ≤ k →
    ∃ r, countwheelref14_Least.l0 k l id (p : Int) best (t : Int) = some r ∧ r ≤ best ∧ (∀ s, s % p = 0 → t ≤ s → s + p ≤ l.length → r ≤ cnt (has l id) s p) ∧ ∀ b : Int, b ≤ best → (∀ s, s % p = 0 → t ≤ s → s + p ≤ l.length → b ≤ cnt (has l id) s p) → b ≤ r
  | 0, t, k, best, h, ht, hk => by
    obtain ⟨k, rfl⟩ : ∃ m, k = m + 1 := ⟨k - 1, by omega⟩
    rw [Nat.zero_mul] at h
    simp only [countwheelref14_Least.l0]
    rw [if_neg (by omega)]
    exact ⟨best, rfl, Int.le_refl _, fun s _ h1 h2 => by omega, fun b hb _ => hb⟩
  | d + 1, t, k, best, h, ht, hk => by
    obtain ⟨k, rfl⟩ : ∃ m, k = m + 1 := ⟨k - 1, by omega⟩
    rw [Nat.add_mul, Nat.one_mul] at h
    have e : wrap64 ((t : Int) + (p : Int)) = ((t + p : Nat) : Int) := by unfold wrap64; omega
    have ht2 : (t + p) % p = 0 := by rw [Nat.add_mod_right]; exact ht
    simp only [countwheelref14_Least.l0]
    rw [if_pos (by omega), e, supply_is hl (by omega) k (by omega)]
    simp only [Option.bind_some]
    have key : ∀ best2 : Int, best2 ≤ best → best2 ≤ cnt (has l id) t p → (∀ b : Int, b ≤ best → b ≤ cnt (has l id) t p → b ≤ best2) →
        ∃ r, countwheelref14_Least.l0 k l id (p : Int) best2 ((t + p : Nat) : Int) = some r ∧ r ≤ best ∧ (∀ s, s % p = 0 → t ≤ s → s + p ≤ l.length → r ≤ cnt (has l id) s p) ∧ ∀ b : Int, b ≤ best → (∀ s, s % p = 0 → t ≤ s → s + p ≤ l.length → b ≤ cnt (has l id) s p) → b ≤ r := by
      intro best2 h1 h2 h3
      obtain ⟨r, hr, hr1, hr2, hr3⟩ := least_loop (l := l) (id := id) hl hp hp2 d (t + p) k best2 (by omega) ht2 (by omega)
      refine ⟨r, hr, by omega, fun s hs hts hsl => ?_, fun b hb hbs => ?_⟩
      · by_cases e2 : s = t
        · subst e2; omega
        · have := Edf.mod_gap ht hs (by omega)
          exact hr2 s hs this hsl
      · exact hr3 b (h3 b hb (hbs t ht (Nat.le_refl _) (by omega))) (fun s hs hts hsl => hbs s hs (by omega) hsl)
    split
    · rename_i hc
      exact key _ (by omega) (Int.le_refl _) (fun b _ h => h)
    · rename_i hc
      exact key _ (Int.le_refl _) (by omega) (fun b h _ => h)
theorem least_is {l : List Int} (id : Int) {p : Nat} (hl : l.length ≤ 1000) (hp : 1 ≤ p) (hp2 : p ≤ 1000) (hm : l.length % p = 0) (k : Nat) (hk : 2 * l.length + 3 ≤ k) :
    ∃ r, countwheelref14_Least.f k l id (p : Int) = some r ∧ r ≤ p ∧ 0 ≤ r ∧ (∀ s, s % p = 0 → s + p ≤ l.length → r ≤ cnt (has l id) s p) ∧ ∀ b : Int, b ≤ p → (∀ s, s % p = 0 → s + p ≤ l.length → b ≤ cnt (has l id) s p) → b ≤ r := by
  have hdm := Nat.div_add_mod l.length p
  rw [hm, Nat.add_zero, Nat.mul_comm] at hdm
  have hq : l.length / p ≤ l.length := Nat.div_le_self _ _
  obtain ⟨r, h1, h2, h3, h4⟩ := least_loop (l := l) (id := id) hl hp hp2 (l.length / p) 0 k (p : Int) (by omega) (Nat.zero_mod _) (by omega)
  exact ⟨r, h1, h2, h4 0 (by omega) (fun s _ _ _ => by omega), fun s hs hsl => h3 s hs (Nat.zero_le _) hsl, fun b hb hbs => h4 b hb (fun s hs _ hsl => hbs s hs hsl)⟩
end Go.Proofs.Ytnniejaknnpcjaa.PlW
