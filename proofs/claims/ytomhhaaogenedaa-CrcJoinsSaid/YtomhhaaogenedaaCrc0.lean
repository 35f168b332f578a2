/- CRC sums, on numbers: a step is linear, eight steps of a number are the table's entry of its lowest byte and the rest; noughts behind a text are a linear map. -/
import Derived.Test.YtomhhaaogenedaaPCrcJoinsx1
import Derived.Laws.BitsAllLaws
import Derived.Test.YtomhhaaogenedaaSle
namespace Go.Proofs.Ytomhhaaogenedaa.Crc
open Go.RowKit Go.Proofs.YtomhhaaogenedaaW.PrintWords Go.Proofs.YtomhhaaogenedaaW.PrintLast Go.Proofs.YtomhhaaogenedaaW.PrintMore Go.Proofs.Ytomhhaaogenedaa.PCrcJoins
set_option linter.unusedVariables false
def stp (v : Nat) : Nat := if v % 2 = 1 then v / 2 ^^^ 3988292384 else v / 2
def stps : Nat → Nat → Nat
  | 0, v => v
  | n + 1, v => stps n (stp v)
theorem xor_lt {a b : Nat} (ha : a < 4294967296) (hb : b < 4294967296) : a ^^^ b < 4294967296 := Nat.xor_lt_two_pow (n := 32) ha hb
theorem stp_lt {v : Nat} (h : v < 4294967296) : stp v < 4294967296 := by
  unfold stp
  split
  · exact xor_lt (by omega) (by decide)
  · omega
theorem stps_lt : ∀ (n : Nat) {v : Nat}, v < 4294967296 → stps n v < 4294967296
  | 0, v, h => h
  | n + 1, v, h => stps_lt n (stp_lt h)
theorem xor_div2 (a b : Nat) : (a ^^^ b) / 2 = a / 2 ^^^ b / 2 := by
  have h := Nat.shiftRight_xor_distrib (a := a) (b := b) (i := 1)
  simpa [Nat.shiftRight_succ] using h
theorem xor_mod2 (a b : Nat) : (a ^^^ b) % 2 = (a % 2 + b % 2) % 2 := by
  have h := Nat.xor_mod_two_pow (a := a) (b := b) (n := 1)
  rw [Nat.pow_one] at h
  rw [h]
  rcases Nat.mod_two_eq_zero_or_one a with h | h <;> rcases Nat.mod_two_eq_zero_or_one b with k | k <;> simp [h, k]
theorem stp_xor (x y : Nat) : stp (x ^^^ y) = stp x ^^^ stp y := by
  unfold stp
  rw [xor_div2, xor_mod2]
  rcases Nat.mod_two_eq_zero_or_one x with h | h <;> rcases Nat.mod_two_eq_zero_or_one y with k | k <;> simp [h, k]
  · rw [Nat.xor_assoc]
  · rw [Nat.xor_assoc, Nat.xor_comm (y / 2), Nat.xor_assoc]
  · rw [Nat.xor_assoc, ← Nat.xor_assoc 3988292384, Nat.xor_comm 3988292384 (y / 2), Nat.xor_assoc (y / 2), Nat.xor_self, Nat.xor_zero]
theorem stps_xor : ∀ (n x y : Nat), stps n (x ^^^ y) = stps n x ^^^ stps n y
  | 0, x, y => rfl
  | n + 1, x, y => by simp only [stps]; rw [stp_xor, stps_xor n]
theorem stps_shift : ∀ (n w : Nat), stps n (w * 2 ^ n) = w
  | 0, w => by simp [stps]
  | n + 1, w => by
    simp only [stps]
    have e : w * 2 ^ (n + 1) = 2 * (w * 2 ^ n) := by rw [Nat.pow_succ]; ac_rfl
    have : stp (w * 2 ^ (n + 1)) = w * 2 ^ n := by
      unfold stp
      rw [if_neg (by omega)]
      omega
    rw [this, stps_shift n w]
theorem low_high (v : Nat) : v = v % 256 ^^^ (v / 256) * 256 := by
  have h : v % 256 ^^^ (v / 256) * 256 = v % 256 ||| (v / 256) * 256 := by
    apply Nat.eq_of_testBit_eq
    intro i
    rw [Nat.testBit_xor, Nat.testBit_or]
    have e1 : (v % 256).testBit i = (decide (i < 8) && v.testBit i) := by rw [show 256 = 2 ^ 8 from rfl, Nat.testBit_mod_two_pow]
    have e2 : (v / 256 * 256).testBit i = (decide (8 ≤ i) && (v / 256).testBit (i - 8)) := by rw [Nat.mul_comm, show 256 = 2 ^ 8 from rfl, Nat.testBit_two_pow_mul]
    rw [e1, e2]
    by_cases c : i < 8
    · simp [c, show ¬ 8 ≤ i by omega]
    · simp [c]
  rw [h, Nat.or_comm, Nat.mul_comm, show 256 = 2 ^ 8 from rfl, ← Nat.two_pow_add_eq_or_of_lt (Nat.mod_lt _ (by decide))]
  omega
/-- Eight steps: the lowest byte's, and what was above it. -/
theorem eight (v b : Nat) : stps 8 (v ^^^ b) = stps 8 (v % 256 ^^^ b) ^^^ v / 256 := by
  have h := low_high v
  have e : v ^^^ b = (v % 256 ^^^ b) ^^^ (v / 256) * 2 ^ 8 := by
    conv => lhs; rw [h]
    rw [Nat.xor_assoc, Nat.xor_assoc, Nat.xor_comm b]
  rw [e, stps_xor, stps_shift]
/-- The register behind bytes. -/
def reg : Nat → List Nat → Nat
  | v, [] => v
  | v, b :: l => reg (stps 8 (v ^^^ b)) l
theorem reg_append : ∀ (l m : List Nat) (v : Nat), reg v (l ++ m) = reg (reg v l) m
  | [], m, v => rfl
  | b :: l, m, v => reg_append l m _
theorem reg_lt : ∀ (l : List Nat) {v : Nat}, v < 4294967296 → (∀ b ∈ l, b < 256) → reg v l < 4294967296
  | [], v, h, _ => h
  | b :: l, v, h, hb => reg_lt l (stps_lt 8 (xor_lt h (by have := hb b (by simp); omega))) (fun c hc => hb c (by simp [hc]))
/-- So many noughts behind a number. -/
def nul : Nat → Nat → Nat
  | 0, v => v
  | n + 1, v => nul n (stps 8 v)
theorem nul_xor : ∀ (n x y : Nat), nul n (x ^^^ y) = nul n x ^^^ nul n y
  | 0, x, y => rfl
  | n + 1, x, y => by simp only [nul]; rw [stps_xor, nul_xor n]
theorem nul_lt : ∀ (n : Nat) {v : Nat}, v < 4294967296 → nul n v < 4294967296
  | 0, v, h => h
  | n + 1, v, h => nul_lt n (stps_lt 8 h)
theorem nul_add : ∀ (m n v : Nat), nul (m + n) v = nul n (nul m v)
  | 0, n, v => by rw [Nat.zero_add]; rfl
  | m + 1, n, v => by rw [show m + 1 + n = (m + n) + 1 by omega]; simp only [nul]; rw [nul_add m n]
theorem reg_cons (v b : Nat) (l : List Nat) : reg v (b :: l) = reg (stps 8 (v ^^^ b)) l := rfl
theorem nul_succ (n v : Nat) : nul (n + 1) v = nul n (stps 8 v) := rfl
theorem reg_xor (l : List Nat) : ∀ (v u : Nat), reg (v ^^^ u) l = reg v l ^^^ nul l.length u := by
  induction l with
  | nil => intro v u; rfl
  | cons b l ih =>
    intro v u
    have e : v ^^^ u ^^^ b = (v ^^^ b) ^^^ u := by rw [Nat.xor_assoc, Nat.xor_comm u, ← Nat.xor_assoc]
    rw [reg_cons, reg_cons, List.length_cons, nul_succ, e, stps_xor 8 (v ^^^ b) u, ih]
/-- The sum of two texts, of theirs. -/
theorem joins (l m : List Nat) (hl : ∀ b ∈ l, b < 256) : 4294967295 ^^^ reg 4294967295 (l ++ m) = (4294967295 ^^^ reg 4294967295 m) ^^^ nul m.length (4294967295 ^^^ reg 4294967295 l) := by
  rw [reg_append]
  have e : reg 4294967295 l = 4294967295 ^^^ (4294967295 ^^^ reg 4294967295 l) := by rw [← Nat.xor_assoc, Nat.xor_self, Nat.zero_xor]
  conv => lhs; rw [e, reg_xor]
  rw [← Nat.xor_assoc]
/-- The numbers of which but one bit is 1 tell a linear map. -/
def lin (f : Nat → Nat) (v : Nat) : Nat → Nat
  | 0 => 0
  | i + 1 => if v.testBit i then lin f v i ^^^ f (2 ^ i) else lin f v i
theorem lin_is (f : Nat → Nat) (h0 : f 0 = 0) (hx : ∀ x y, f (x ^^^ y) = f x ^^^ f y) (v : Nat) : ∀ i, lin f v i = f (v % 2 ^ i)
  | 0 => by simp [lin, Nat.mod_one, h0]
  | i + 1 => by
    have e : v % 2 ^ (i + 1) = v % 2 ^ i ^^^ (if v.testBit i then 2 ^ i else 0) := by
      apply Nat.eq_of_testBit_eq
      intro j
      rw [Nat.testBit_xor, Nat.testBit_mod_two_pow, Nat.testBit_mod_two_pow]
      by_cases c : v.testBit i
      · rw [if_pos c, Nat.testBit_two_pow]
        by_cases cj : i = j
        · subst cj; simp [c]
        · have : (decide (j < i + 1)) = decide (j < i) := by simp; omega
          simp [this, cj]
      · rw [if_neg c, Nat.zero_testBit]
        by_cases cj : i = j
        · subst cj; simp at c; simp [c]
        · have : (decide (j < i + 1)) = decide (j < i) := by simp; omega
          simp [this]
    simp only [lin]
    rw [lin_is f h0 hx v i, e]
    split
    · rw [hx]
    · rw [Nat.xor_zero]
theorem stps_zero : ∀ n, stps n 0 = 0
  | 0 => rfl
  | n + 1 => by simp only [stps]; rw [show stp 0 = 0 from rfl]; exact stps_zero n
theorem nul_zero : ∀ n, nul n 0 = 0
  | 0 => rfl
  | n + 1 => by simp only [nul]; rw [stps_zero]; exact nul_zero n

theorem not_nat {x : Nat} (h : x < 4294967296) : 4294967295 - x = 4294967295 ^^^ x := by
  have h1 : (~~~(BitVec.ofNat 32 x)).toNat = 2 ^ 32 - 1 - (BitVec.ofNat 32 x).toNat := BitVec.toNat_not
  have h2 : ~~~(BitVec.ofNat 32 x) = BitVec.allOnes 32 ^^^ BitVec.ofNat 32 x := by rw [BitVec.allOnes_xor]
  rw [h2, BitVec.toNat_xor, BitVec.toNat_allOnes, BitVec.toNat_ofNat, Nat.mod_eq_of_lt (show x < 2 ^ 32 from h)] at h1
  exact h1.symm
theorem and1 {v : Nat} (h : v < 4294967296) : Go.bits .and .u32 (v : Int) 1 = ((v % 2 : Nat) : Int) := by
  have := Go.u32_and_nat v 1 h (by decide)
  rw [Nat.and_one_is_mod] at this
  exact this
theorem one_loop : ∀ (n v : Nat), n ≤ 8 → v < 4294967296 → crc_one.l0 (n + 1) (v : Int) (8 - (n : Int)) = some ((stps n v : Nat) : Int)
  | 0, v, _, _ => by simp [crc_one.l0, stps]
  | n + 1, v, hn, h => by
    unfold crc_one.l0
    have ew : wrap64 (8 - ((n + 1 : Nat) : Int) + 1) = 8 - (n : Int) := by unfold wrap64; omega
    have ed : ((v : Int) / 2) = ((v / 2 : Nat) : Int) := by omega
    have ex : Go.bits .xor .u32 ((v / 2 : Nat) : Int) 3988292384 = ((v / 2 ^^^ 3988292384 : Nat) : Int) := Go.u32_xor_nat _ 3988292384 (by omega) (by decide)
    rw [if_pos (by omega), and1 h, ew, ed, ex]
    have hs : stps (n + 1) v = stps n (stp v) := rfl
    rw [hs]
    by_cases c : v % 2 = 1
    · rw [if_pos (by omega), one_loop n _ (by omega) (xor_lt (by omega) (by decide))]
      unfold stp; rw [if_pos c]
    · rw [if_neg (by omega), one_loop n _ (by omega) (by omega)]
      unfold stp; rw [if_neg c]
theorem one_is (v : Nat) (h : v < 4294967296) (w : World) : Calls Try.prog 67 #[.int .u32 (v : Int)] w fun e w' => e = .returned (.int .u32 ((stps 8 v : Nat) : Int)) ∧ Drawn0 w w' :=
  crc_one.calls 9 _ _ w (one_loop 8 v (Nat.le_refl _) h)
theorem step_is (v : Nat) (h : v < 4294967296) : countwheelref02_step.f (v : Int) = some ((stp v : Nat) : Int) := by
  unfold countwheelref02_step.f stp
  have e1 : Int.tmod (v : Int) 2 = ((v % 2 : Nat) : Int) := by rw [Int.tmod_eq_emod_of_nonneg (by omega)]; omega
  have e2 : Int.tdiv (v : Int) 2 % 4294967296 = ((v / 2 : Nat) : Int) := by rw [Int.tdiv_eq_ediv_of_nonneg (by omega)]; omega
  have ex : Go.bits .xor .u32 ((v / 2 : Nat) : Int) 3988292384 = ((v / 2 ^^^ 3988292384 : Nat) : Int) := Go.u32_xor_nat _ 3988292384 (by omega) (by decide)
  rw [e1, e2, ex]
  by_cases c : v % 2 = 1
  · rw [if_pos (by omega), if_pos c]
  · rw [if_neg (by omega), if_neg c]
theorem sum_inner (s : ByteArray) (i : Int) (K : Nat) : ∀ (n v : Nat), n ≤ 8 → v < 4294967296 → countwheelref02_Sum.l1 (K + 1 + n) s (v : Int) i (8 - (n : Int)) = countwheelref02_Sum.l0 K s ((stps n v : Nat) : Int) (wrap64 (i + 1))
  | 0, v, _, _ => by simp [countwheelref02_Sum.l1, stps]
  | n + 1, v, hn, h => by
    have ew : wrap64 (8 - ((n + 1 : Nat) : Int) + 1) = 8 - (n : Int) := by unfold wrap64; omega
    rw [show K + 1 + (n + 1) = (K + 1 + n) + 1 from rfl]
    unfold countwheelref02_Sum.l1
    rw [if_pos (by omega), step_is v h, Option.bind_some, ew, sum_inner s i K n (stp v) (by omega) (stp_lt h)]
    rfl
/-- The bytes of a text. -/
def bys (s : ByteArray) : List Nat := s.data.toList.map UInt8.toNat
theorem bys_lt (s : ByteArray) : ∀ b ∈ bys s, b < 256 := by
  intro b hb
  obtain ⟨x, _, rfl⟩ := List.mem_map.1 hb
  exact x.toNat_lt
theorem bys_len (s : ByteArray) : (bys s).length = s.size := by unfold bys; rw [List.length_map, Array.length_toList]; rfl
theorem bt_bys (s : ByteArray) (i : Nat) (h : i < s.size) : bt s (i : Int) = (((bys s)[i]'(by rw [bys_len]; exact h) : Nat) : Int) := by
  unfold bt bys
  rw [Int.toNat_natCast, dif_pos h]
  simp [ByteArray.getElem_eq_getElem_data]
theorem sum_loop (s : ByteArray) (hs : s.size ≤ 1000000) : ∀ (m v : Nat), m ≤ s.size → v < 4294967296 → countwheelref02_Sum.l0 (10 * m + 1) s (v : Int) ((s.size - m : Nat) : Int) = some (((4294967295 ^^^ reg v ((bys s).drop (s.size - m)) : Nat) : Int))
  | 0, v, _, h => by
    unfold countwheelref02_Sum.l0
    rw [if_neg (by omega), Nat.sub_zero, List.drop_of_length_le (by rw [bys_len]; omega)]
    show some _ = some (((4294967295 ^^^ v : Nat) : Int))
    rw [← not_nat h]
    congr 1
    omega
  | m + 1, v, hm, h => by
    have hi : s.size - (m + 1) < s.size := by omega
    rw [show 10 * (m + 1) + 1 = ((10 * m + 1) + 1 + 8) + 1 by omega]
    unfold countwheelref02_Sum.l0
    rw [if_pos (by omega), if_pos (by omega), bt_bys s _ hi]
    have hb := bys_lt s _ (List.getElem_mem (by rw [bys_len]; exact hi : s.size - (m + 1) < (bys s).length))
    rw [List.drop_eq_getElem_cons (by rw [bys_len]; exact hi)]
    generalize (bys s)[s.size - (m + 1)]'(by rw [bys_len]; exact hi) = b at *
    have e1 : ((b : Int) % 4294967296) = (b : Int) := by omega
    have ex : Go.bits .xor .u32 (v : Int) (b : Int) = ((v ^^^ b : Nat) : Int) := Go.u32_xor_nat v b h (by omega)
    have h2 : v ^^^ b < 4294967296 := xor_lt h (by omega)
    have e3 : wrap64 (((s.size - (m + 1) : Nat) : Int) + 1) = ((s.size - m : Nat) : Int) := by unfold wrap64; omega
    have := sum_inner s ((s.size - (m + 1) : Nat) : Int) (10 * m + 1) 8 _ (Nat.le_refl _) h2
    rw [e1, ex, show (0 : Int) = 8 - ((8 : Nat) : Int) from rfl, this, e3, sum_loop s hs m _ (by omega) (stps_lt 8 h2), reg_cons, show s.size - (m + 1) + 1 = s.size - m by omega]
/-- A text's sum. -/
def sumOf (s : ByteArray) : Nat := 4294967295 ^^^ reg 4294967295 (bys s)
theorem ref_is (s : ByteArray) (hs : s.size ≤ 1000000) (w : World) : Calls Try.prog 29 #[.string s] w fun e w' => e = .returned (.int .u32 ((sumOf s : Nat) : Int)) ∧ Drawn0 w w' := by
  refine countwheelref02_Sum.calls (10 * s.size + 1) s _ w ?_
  have := sum_loop s hs s.size 4294967295 (Nat.le_refl _) (by decide)
  rw [Nat.sub_self, List.drop_zero] at this
  exact this
end Go.Proofs.Ytomhhaaogenedaa.Crc
