/- Octet: plain facts on numbers as bytes, and the chapter's example, walked. -/
import Derived.Test.YtomhhaaogenedaaOct1
import Derived.Lib.ConvBytes
import Derived.Laws.BytesString
namespace Go.Proofs.Ytomhhaaogenedaa.Oct
open Go.RowKit Go.Proofs.Ytomhhaaogenedaa.POctetPuts Go.Proofs.YtomhhaaogenedaaW.PrintWords Go.Proofs.YtomhhaaogenedaaW.PrintLast Go.Proofs.YtomhhaaogenedaaW.PrintMore Go.Proofs.Ytomhhaaogenedaa.Mine
set_option linter.unusedVariables false

/-- 'string(b)' of a slice of bytes that is read. -/
theorem C_string {P : Program} {w : World} {src dst e : TypeId} {A : Option Addr} {n c : Nat} {xs : List Int} (hs : P.underlying src = some (.slice e)) (he : P.underlying e = some (.int .u8)) (hd : P.underlying dst = some .string)
    (h : (Kd.int .u8).C w A n xs) : (convert src dst (.slice A n c)).run P w = .ok (.string (strOfNums xs)) w := by
  have hl : xs.length = n := h.1
  rcases Nat.eq_zero_or_pos n with h0 | h0
  · subst h0
    obtain rfl : xs = [] := List.eq_nil_of_length_eq_zero hl
    rw [run_convert_bytes_string w src dst e _ 0 c hs he hd]
    cases A <;> simp [Conv.bytesToString, loadCells]
    all_goals rfl
  · obtain ⟨ad, rfl, hc⟩ := h.2.2 h0
    have hcell : ∀ i, i < n → w.cell? (ad.add i) = some (.int .u8 (xs.getD i 0)) := by
      intro i hi
      obtain ⟨cs, hlen, hk, hcc⟩ := hc i _ (List.getElem?_eq_getElem (show i < xs.length by omega))
      have hk' : cs = [.int .u8 xs[i]] := hk
      rw [hk'] at hcc
      have := hcc 0 _ rfl
      simp [Kd.int, Kd.scalar] at this
      rw [this, List.getD_eq_getElem?_getD, List.getElem?_eq_getElem (show i < xs.length by omega)]
      rfl
    obtain ⟨b, off, spot⟩ := ad
    have hsp : spot = none := by
      have := hcell 0 h0
      cases spot with
      | none => rfl
      | some q => unfold World.cell? at this; simp [Addr.add] at this; split at this <;> simp_all
    subst hsp
    refine run_convert_bytes_arg w src e hs he b off n c xs hl (fun i hi => ?_) dst hd
    have := hcell i hi
    rw [← this]
    congr 1
    unfold Addr.add
    split
    · simp_all
    · rfl

theorem R_string {P : Program} {w : World} {src dst e e' : TypeId} {base : Nat} {ok : Nat → Prop} {v : Value} {xs : List Int} (hs : P.underlying src = some (.slice e)) (he : P.underlying e = some (.int .u8)) (hd : P.underlying dst = some .string)
    (h : (Kd.int .u8).R e' w base ok v xs) : (convert src dst v).run P w = .ok (.string (strOfNums xs)) w := by
  obtain ⟨A, c, rfl, _, hC⟩ := Kd.R_reads h
  exact C_string hs he hd hC

set_option maxHeartbeats 800000 in
theorem awake_calls (w : World) : Calls Try.prog 14 #[] w fun e w' => e = .returned (.bool true) ∧ Below w.heap.size w w' := by
  have h0 : (Kd.int .u8).C w none 0 [] := Kd.C_nil _ _
  go_enter Try.func14, Try.ntmps14
  go_wp2_with fail
  refine (put_yes none 0 0 [] 258 2 w h0 (by omega) (by decide +kernel) (by omega) (by omega) (by omega) (by omega)).mono ?_
  rintro e w1 ⟨s, rfl, hR, hB⟩
  have hq := R_string (P := Try.prog) (src := 22) (dst := 9) Try.underlying22 Try.underlying5 Try.underlying9 hR
  have e1 : strOfNums ([] ++ be 258 2 2) = ⟨#[1, 2]⟩ := by decide +kernel
  rw [e1] at hq
  clear e1 hR h0
  have HB := Go.Lib.hid hB
  clear hB
  go_wp2_with fail
  go_ret
  exact ⟨rfl, HB.out⟩

/-! ### Plain facts -/
theorem or_add (a b : Int) (ha : 0 ≤ a) (h1 : a ≤ 18446744073709551615) (h8 : a % 256 = 0) (hb : 0 ≤ b) (hb1 : b ≤ 255) : Go.bits .or .u64 a b = a + b := by
  rw [u64_or a b ha (by omega) hb (by omega)]
  have h2 : a.toNat = (a.toNat / 256) <<< 8 := by rw [Nat.shiftLeft_eq]; omega
  rw [h2, ← Nat.shiftLeft_add_eq_or_of_lt (by omega : b.toNat < 2 ^ 8), ← h2]
  omega
/-- One byte more behind a number. -/
def nxt (a b : Int) : Int := IntKind.u64.wrap (a * 256) + b
theorem nxt_or (a b : Int) (hb : 0 ≤ b) (hb1 : b ≤ 255) : Go.bits .or .u64 (IntKind.u64.wrap (a * 256)) (IntKind.u64.wrap b) = nxt a b := by
  have e : IntKind.u64.wrap b = b := IntWalk.u64_in _ (by omega)
  rw [e]
  unfold nxt
  rw [IntKind.wrap_u64]
  exact or_add _ _ (by omega) (by omega) (by omega) hb hb1
theorem nxt_bd (a b : Int) (hb : 0 ≤ b) (hb1 : b ≤ 255) : 0 ≤ nxt a b ∧ nxt a b ≤ 18446744073709551615 := by unfold nxt; rw [IntKind.wrap_u64]; omega

/-- The number of the first i bytes from a place on. -/
def gv (s : ByteArray) (p : Int) : Nat → Int
  | 0 => 0
  | i + 1 => nxt (gv s p i) (bt s (p + i))
/-- Is there a number of n bytes at a place? -/
def has (s : ByteArray) (p n : Int) : Bool := (decide (n = 1) || decide (n = 2) || decide (n = 4) || decide (n = 8)) && decide (0 ≤ p) && decide (p ≤ (s.size : Int)) && decide (n ≤ (s.size : Int) - p)

theorem get_tell (s : ByteArray) (p : Int) (n : Nat) (hs : s.size ≤ 1000000) (h0 : 0 ≤ p) (h1 : p + n ≤ s.size) (d : Nat) : ∀ (k i : Nat), i ≤ n → n - i = d → d < k →
    octet_Get.l0 k s p (gv s p i) (n : Int) (i : Int) = some (gv s p n, true) := by
  induction d with
  | zero =>
    intro k i hi hd hk
    obtain ⟨k, rfl⟩ : ∃ m, k = m + 1 := ⟨k - 1, by omega⟩
    obtain rfl : i = n := by omega
    simp only [octet_Get.l0]; rw [if_neg (by omega)]
  | succ d ih =>
    intro k i hi hd hk
    obtain ⟨k, rfl⟩ : ∃ m, k = m + 1 := ⟨k - 1, by omega⟩
    have e : wrap64 (p + i) = p + i := by unfold wrap64; omega
    have e2 : wrap64 ((i : Int) + 1) = ((i + 1 : Nat) : Int) := by unfold wrap64; omega
    have hb := bt_range s (p + i)
    simp only [octet_Get.l0]
    rw [if_pos (by omega), e, if_pos (by omega), if_pos (by omega), nxt_or _ _ hb.1 hb.2, e2]
    exact ih k (i + 1) (by omega) (by omega) (by omega)

theorem get_at (s : ByteArray) (p n : Int) (hs : s.size ≤ 1000000) (hp : p ≤ 9223372036854775807) (hp0 : -9223372036854775808 ≤ p) :
    octet_Get.f 20 s p n = some (if has s p n = true then (gv s p n.toNat, true) else (0, false)) := by
  unfold octet_Get.f octet_size.f has
  have key : ∀ m : Nat, m ≤ 8 → 0 ≤ p → p ≤ s.size → octet_Get.j0 20 s p (m : Int) (decide ((m : Int) > wrap64 ((s.size : Int) - p))) = some (if (m : Int) ≤ (s.size : Int) - p then (gv s p m, true) else (0, false)) := by
    intro m hm h0 h1
    have e : wrap64 ((s.size : Int) - p) = (s.size : Int) - p := by unfold wrap64; omega
    rw [e]
    by_cases h : (m : Int) ≤ (s.size : Int) - p
    · rw [if_pos h]
      have hd : decide ((m : Int) > (s.size : Int) - p) = false := by simp; omega
      rw [hd]
      simp only [octet_Get.j0]
      rw [if_neg (by simp)]
      exact get_tell s p m hs h0 (by omega) m 19 0 (by omega) (by omega) (by omega)
    · rw [if_neg h]
      have hd : decide ((m : Int) > (s.size : Int) - p) = true := by simp; omega
      rw [hd]
      simp only [octet_Get.j0]
      rw [if_pos trivial]
  have no : ∀ m : Int, octet_Get.j0 20 s p m true = some (0, false) := by intro m; simp only [octet_Get.j0]; rw [if_pos trivial]
  by_cases hn : n = 1 ∨ n = 2 ∨ n = 4 ∨ n = 8
  · by_cases h0 : p < 0
    · rcases hn with rfl | rfl | rfl | rfl <;> simp [h0, no] <;> omega
    · by_cases h1 : p > (s.size : Int)
      · rcases hn with rfl | rfl | rfl | rfl <;> simp [h0, h1, no] <;> omega
      · rcases hn with rfl | rfl | rfl | rfl
        · have := key 1 (by omega) (by omega) (by omega); simp [h0, h1]; simp at this; rw [this]; simp [show 0 ≤ p by omega, show p ≤ (s.size : Int) by omega]
        · have := key 2 (by omega) (by omega) (by omega); simp [h0, h1]; simp at this; rw [this]; simp [show 0 ≤ p by omega, show p ≤ (s.size : Int) by omega]
        · have := key 4 (by omega) (by omega) (by omega); simp [h0, h1]; simp at this; rw [this]; simp [show 0 ≤ p by omega, show p ≤ (s.size : Int) by omega]
        · have := key 8 (by omega) (by omega) (by omega); simp [h0, h1]; simp at this; rw [this]; simp [show 0 ≤ p by omega, show p ≤ (s.size : Int) by omega]
  · have h8 : ¬ n = 8 := by omega
    have h4 : ¬ n = 4 := by omega
    have h2 : ¬ n = 2 := by omega
    have h1 : ¬ n = 1 := by omega
    simp [h8, h4, h2, h1, no]

theorem rfits_at (v n : Int) (h0 : 0 ≤ v) (h1 : v ≤ 18446744073709551615) : countwheelref01_Fits.f 70 v n = some (fits v n) := by
  have p1 : countwheelref01_power.f 70 8 = some 256 := by decide +kernel
  have p2 : countwheelref01_power.f 70 16 = some 65536 := by decide +kernel
  have p4 : countwheelref01_power.f 70 32 = some 4294967296 := by decide +kernel
  have w1 : wrap64 8 = 8 := by decide +kernel
  have w2 : wrap64 16 = 16 := by decide +kernel
  have w4 : wrap64 32 = 32 := by decide +kernel
  unfold countwheelref01_Fits.f countwheelref01_Size.f fits
  by_cases a : n = 1
  · subst a; simp [w1, p1]
  · by_cases b : n = 2
    · subst b; simp [w2, p2]
    · by_cases c : n = 4
      · subst c; simp [w4, p4]
      · by_cases d : n = 8
        · subst d; simp
        · simp [a, b, c, d]

theorem fits_lt (v : Int) (m : Nat) (h0 : 0 ≤ v) (h1 : v ≤ 18446744073709551615) (h : fits v m = true) : (m = 1 ∨ m = 2 ∨ m = 4 ∨ m = 8) ∧ v < 2 ^ (8 * m) := by
  unfold fits at h
  simp at h
  have hm : m = 1 ∨ m = 2 ∨ m = 4 ∨ m = 8 := by omega
  refine ⟨hm, ?_⟩
  rcases hm with rfl | rfl | rfl | rfl <;> simp <;> omega

theorem be_at (v : Int) (n k j : Nat) (h : j < k) : (be v n k)[j]? = some (v / 2 ^ (8 * (n - 1 - j)) % 256) := by
  unfold be
  rw [List.getElem?_map, List.getElem?_range h]
  rfl

theorem bt_str (l : List Int) (j : Nat) (x : Int) (h : l[j]? = some x) (h0 : 0 ≤ x) (h1 : x ≤ 255) : bt (strOfNums l) (j : Int) = x := by
  obtain ⟨hj, hx⟩ := List.getElem?_eq_some_iff.1 h
  unfold bt
  rw [dif_pos (by simpa [strOfNums_size] using hj)]
  simp only [strOfNums, Int.toNat_natCast]
  show (((List.map (fun n => UInt8.ofNat n.toNat) l).toArray[j]'(by simpa using hj)).toNat : Int) = x
  simp [hx]
  omega

theorem pow_step (m i : Nat) (h : i < m) : (2 : Int) ^ (8 * (m - i)) = 2 ^ (8 * (m - 1 - i)) * 256 := by
  have e : 8 * (m - i) = 8 * (m - 1 - i) + 8 := by omega
  rw [e, Int.pow_add]; rfl

theorem gv_put (xs : List Int) (v : Int) (m : Nat) (h0 : 0 ≤ v) (h1 : v ≤ 18446744073709551615) (hv : v < 2 ^ (8 * m)) : ∀ i : Nat, i ≤ m → gv (strOfNums (xs ++ be v m m)) (xs.length : Int) i = v / 2 ^ (8 * (m - i)) := by
  intro i
  induction i with
  | zero =>
    intro _
    unfold gv
    rw [Nat.sub_zero, Int.ediv_eq_zero_of_lt h0 hv]
  | succ i ih =>
    intro hi
    have hq : (0 : Int) < 2 ^ (8 * (m - 1 - i)) := Int.pow_pos (by omega)
    have e := bt_str (xs ++ be v m m) (xs.length + i) (v / 2 ^ (8 * (m - 1 - i)) % 256) (by rw [List.getElem?_append_right (by omega), Nat.add_sub_cancel_left, be_at _ _ _ _ (by omega)]) (by omega) (by omega)
    unfold gv
    have e' : ((xs.length : Int) + (i : Int)) = ((xs.length + i : Nat) : Int) := by omega
    rw [ih (by omega), e', e, pow_step m i (by omega), ← Int.ediv_ediv_of_nonneg (by omega)]
    have e2 : m - (i + 1) = m - 1 - i := by omega
    rw [e2]
    generalize hT : v / 2 ^ (8 * (m - 1 - i)) = T at *
    have hT0 : 0 ≤ T := by rw [← hT]; exact Int.ediv_nonneg h0 (by omega)
    have hT1 : T ≤ v := by rw [← hT]; exact Int.ediv_le_self _ h0
    unfold nxt
    rw [IntKind.wrap_u64]
    omega

theorem str_app (a b : List Int) : strOfNums (a ++ b) = strOfNums a ++ strOfNums b := by
  apply ByteArray.ext
  simp [strOfNums]

theorem text_tell (v : Int) (m : Nat) (h0 : 0 ≤ v) (h1 : v ≤ 18446744073709551615) (hm : m ≤ 8) (d : Nat) : ∀ (k i : Nat), i ≤ m → m - i = d → d < k →
    countwheelref01_Text.l0 k (v / 2 ^ (8 * i)) (m : Int) (strOfNums ((be v m m).drop (m - i))) (i : Int) = some (strOfNums (be v m m)) := by
  induction d with
  | zero =>
    intro k i hi hd hk
    obtain ⟨k, rfl⟩ : ∃ m, k = m + 1 := ⟨k - 1, by omega⟩
    obtain rfl : i = m := by omega
    simp only [countwheelref01_Text.l0]; rw [if_neg (by omega)]; simp
  | succ d ih =>
    intro k i hi hd hk
    obtain ⟨k, rfl⟩ : ∃ m, k = m + 1 := ⟨k - 1, by omega⟩
    have hlt : i < m := by omega
    have hX0 : 0 ≤ v / 2 ^ (8 * i) := Int.ediv_nonneg h0 (Int.le_of_lt (Int.pow_pos (by omega)))
    have hX1 : v / 2 ^ (8 * i) ≤ 18446744073709551615 := Int.le_trans (Int.ediv_le_self _ h0) h1
    have hn : v / 2 ^ (8 * (i + 1)) = v / 2 ^ (8 * i) / 256 := by
      have e : 8 * (i + 1) = 8 * i + 8 := by omega
      rw [e, Int.pow_add, ← Int.ediv_ediv_of_nonneg (Int.le_of_lt (Int.pow_pos (by omega)))]; rfl
    have hdr : (be v m m).drop (m - (i + 1)) = (v / 2 ^ (8 * i) % 256) :: (be v m m).drop (m - i) := by
      have hl : m - (i + 1) < (be v m m).length := by rw [be_len]; omega
      rw [List.drop_eq_getElem_cons hl]
      congr 1
      · have := be_at v m m (m - (i + 1)) (by omega)
        rw [List.getElem?_eq_getElem hl] at this
        have e : m - 1 - (m - (i + 1)) = i := by omega
        rw [e] at this
        exact Option.some.inj this
      · congr 1; omega
    have ih' := ih k (i + 1) (by omega) (by omega) (by omega)
    rw [hn, hdr] at ih'
    clear hn hdr
    generalize v / 2 ^ (8 * i) = X at *
    have hlen : (strOfNums [X % 256]).size + (strOfNums ((be v m m).drop (m - i))).size ≤ 9223372036854775807 := by
      rw [strOfNums_size, strOfNums_size, List.length_drop, be_len, List.length_singleton]
      exact Nat.le_trans (by omega : 1 + (m - (m - i)) ≤ 9) (by decide)
    have e1 : Int.tmod X 256 % 256 = X % 256 := by rw [Int.tmod_eq_emod_of_nonneg hX0]; omega
    have e2 : Int.tdiv X 256 = X / 256 := Int.tdiv_eq_ediv_of_nonneg hX0
    have e3 : IntKind.u64.wrap (X / 256) = X / 256 := IntWalk.u64_in _ (by omega)
    have e4 : wrap64 ((i : Int) + 1) = ((i + 1 : Nat) : Int) := by unfold wrap64; omega
    simp only [countwheelref01_Text.l0]
    rw [if_pos (Int.ofNat_lt.2 hlt), e1, e2, e3, e4]
    simp only [Option.bind_some]
    rw [if_pos hlen, ← str_app]
    exact ih'
theorem text_at (v : Int) (m : Nat) (h0 : 0 ≤ v) (h1 : v ≤ 18446744073709551615) (hm : m ≤ 8) : countwheelref01_Text.f 20 v m = some (strOfNums (be v m m)) := by
  have h := text_tell v m h0 h1 hm m 20 0 (by omega) (by omega) (by omega)
  have e : List.drop (m - 0) (be v m m) = [] := by rw [Nat.sub_zero]; exact List.drop_eq_nil_of_le (by rw [be_len]; omega)
  have e1 : v / 2 ^ (8 * 0) = v := by rw [Nat.mul_zero, Int.pow_zero, Int.ediv_one]
  have e2 : strOfNums [] = ⟨#[]⟩ := rfl
  rw [e, e1, e2] at h
  exact h
end Go.Proofs.Ytomhhaaogenedaa.Oct
