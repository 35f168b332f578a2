/- A queue and the messages that it holds: the plain law. -/
import Derived.Test.YtolokohgphdngaaQue2
namespace Go.Proofs.Ytolokohgphdngaa.Que
open Go.RowKit Go.Proofs.YtolokohgphdngaaW.PrintWords Go.Proofs.YtolokohgphdngaaW.PrintLast Go.Proofs.YtolokohgphdngaaW.PrintMore
set_option linter.unusedVariables false
set_option linter.unusedSimpArgs false
theorem mod2 (a L : Nat) (h : a < 2 * L) : a % L = if a < L then a else a - L := by
  by_cases c : a < L
  · rw [if_pos c, Nat.mod_eq_of_lt c]
  · rw [if_neg c, Nat.mod_eq_sub_mod (by omega), Nat.mod_eq_of_lt (by omega)]
theorem tmod_nat (a b : Nat) : Int.tmod (a : Int) (b : Int) = ((a % b : Nat) : Int) := rfl
theorem okq {z f n lo : Int} {rg : List ByteArray} (a : 0 < rg.length) (b : rg.length ≤ 512) (c : 0 ≤ f) (d : f < rg.length) (e : 0 ≤ n) (g : n ≤ rg.length) : Okq ⟨z, rg, f, n, lo⟩ := ⟨a, b, c, d, e, g⟩
/-- The messages, in their order. -/
structure Hold (q : QS) (ks : List ByteArray) : Prop where
  ok : Okq q
  len : q.n = ks.length
  at_ : ∀ i, i < ks.length → q.ring[(q.first.toNat + i) % q.ring.length]? = ks[i]?
theorem Hold.new (size depth : Int) (h1 : 1 ≤ depth) (h2 : depth ≤ 512) : Hold ⟨size, List.replicate depth.toNat ByteArray.empty, 0, 0, 0⟩ [] :=
  ⟨okq (by simp; omega) (by simp; omega) (Int.le_refl _) (by simp; omega) (Int.le_refl _) (by simp; omega), rfl, fun i h => absurd h (Nat.not_lt_zero _)⟩
theorem Hold.send {q : QS} {ks : List ByteArray} (h : Hold q ks) (m : ByteArray) (hf : fitsB m q.size = true) (hn : q.n ≠ q.ring.length) : (Que.send q m).1 = 0 ∧ Hold (Que.send q m).2 (ks ++ [m]) := by
  obtain ⟨⟨l0, l1, f0, f1, n0, n1⟩, hl, ha⟩ := h
  obtain ⟨z, rg, f, n, lo⟩ := q
  simp only at l0 l1 f0 f1 n0 n1 hl ha hf hn
  obtain ⟨f, rfl⟩ := Int.eq_ofNat_of_zero_le f0
  subst hl
  unfold Que.send
  rw [if_neg (by simp [hf]), if_neg (by simpa using hn)]
  have e : (Int.tmod ((f : Int) + (ks.length : Int)) (rg.length : Int)).toNat = (f + ks.length) % rg.length := by
    rw [show (f : Int) + (ks.length : Int) = ((f + ks.length : Nat) : Int) by omega, tmod_nat]; rfl
  simp only at hn ⊢
  refine ⟨trivial, okq (by simpa using l0) (by simpa using l1) f0 (by simpa using f1) (by show (0:Int) ≤ (ks.length : Int) + 1; omega) (by simp; omega), by simp, fun i hi => ?_⟩
  simp only [List.length_set, Int.toNat_natCast, List.length_append, List.length_cons, List.length_nil] at hi ⊢
  rw [e]
  have hp : (f + ks.length) % rg.length < rg.length := Nat.mod_lt _ l0
  by_cases c : i = ks.length
  · subst c
    rw [List.getElem?_set_self hp]; simp
  · have hne : (f + ks.length) % rg.length ≠ (f + i) % rg.length := by
      rw [mod2 _ _ (by omega), mod2 (f + i) _ (by omega)]; split <;> split <;> omega
    have := ha i (by omega)
    rw [Int.toNat_natCast] at this
    rw [List.getElem?_set_ne hne, this, List.getElem?_append_left (by omega)]
theorem Hold.recv {q : QS} {k : ByteArray} {ks : List ByteArray} (h : Hold q (k :: ks)) : (Que.recv q).1 = k ∧ (Que.recv q).2.1 = 0 ∧ Hold (Que.recv q).2.2 ks ∧ (Que.recv q).2.2.lost = q.lost ∧ (Que.recv q).2.2.size = q.size := by
  obtain ⟨⟨l0, l1, f0, f1, n0, n1⟩, hl, ha⟩ := h
  obtain ⟨z, rg, f, n, lo⟩ := q
  simp only [List.length_cons] at l0 l1 f0 f1 n0 n1 hl ha
  obtain ⟨f, rfl⟩ := Int.eq_ofNat_of_zero_le f0
  have hn : ¬ n = 0 := by omega
  unfold Que.recv
  rw [if_neg (by simpa using hn)]
  have e : Int.tmod ((f : Int) + 1) (rg.length : Int) = (((f + 1) % rg.length : Nat) : Int) := tmod_nat (f + 1) rg.length
  have hfl : f < rg.length := by omega
  have h0 := ha 0 (by omega)
  rw [Int.toNat_natCast, Nat.add_zero, Nat.mod_eq_of_lt hfl] at h0
  simp only [Int.toNat_natCast] at *
  rw [e]
  have hp : (f + 1) % rg.length < rg.length := Nat.mod_lt _ l0
  refine ⟨?_, trivial, ⟨okq (by simpa using l0) (by simpa using l1) (by omega) (by rw [List.length_set]; exact Int.ofNat_lt.2 hp) (by omega) (by rw [List.length_set]; omega), by simp; omega, fun i hi => ?_⟩, trivial, trivial⟩
  · unfold rdOf; simp [List.getD, h0]
  · simp only [List.length_set, Int.toNat_natCast]
    have h1 := ha (i + 1) (by omega)
    have e2 : ((f + 1) % rg.length + i) % rg.length = (f + (i + 1)) % rg.length := by rw [Nat.mod_add_mod]; congr 1; omega
    have hne : f ≠ (f + (i + 1)) % rg.length := by
      rw [mod2 _ _ (by omega)]; split <;> omega
    rw [e2, List.getElem?_set_ne hne, h1]; simp
theorem recv_none {q : QS} (h : Hold q []) : Que.recv q = (⟨#[]⟩, 2, q) := by unfold Que.recv; rw [if_pos (by simpa using h.len)]
theorem send_unfit {q : QS} (m : ByteArray) (hf : fitsB m q.size = false) : Que.send q m = (3, q) := by unfold Que.send; rw [if_pos hf]
theorem send_full {q : QS} {ks : List ByteArray} (h : Hold q ks) (m : ByteArray) (hf : fitsB m q.size = true) (hn : q.n = q.ring.length) : Que.send q m = (2, { q with lost := q.lost + 1 }) ∧ Hold { q with lost := q.lost + 1 } ks := by
  refine ⟨by unfold Que.send; rw [if_neg (by simp [hf]), if_pos hn], ⟨⟨h.ok.l0, h.ok.l1, h.ok.f0, h.ok.f1, h.ok.n0, h.ok.n1⟩, h.len, h.at_⟩⟩
end Go.Proofs.Ytolokohgphdngaa.Que
