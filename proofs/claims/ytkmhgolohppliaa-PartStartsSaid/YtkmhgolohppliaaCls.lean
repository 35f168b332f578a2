/- Cells as owned memory: what each call of them comes to, among other things that the caller owns. -/
import Derived.Test.YtkmhgolohppliaaCel8
import Derived.Test.YtkmhgolohppliaaSl
namespace Go.Proofs.Ytkmhgolohppliaa.Cls
open Go.RowKit Go.Proofs.Ytkmhgolohppliaa.PCellsPlays Go.Proofs.YtkmhgolohppliaaW.PrintWords Go.Proofs.YtkmhgolohppliaaW.PrintLast Go.Proofs.YtkmhgolohppliaaW.PrintMore Go.Proofs.Ytkmhgolohppliaa.Mine Go.Proofs.Ytkmhgolohppliaa.Cel
set_option linter.unusedVariables false
set_option linter.unusedSimpArgs false
open Go.Proofs.Ytkmhgolohppliaa.Sl (SL Stp St No)

theorem base0 {w : World} {base g : Nat} {v1 v2 : Value} {fst : List S43} {now : List Int} {wr : Int} (h : IsCells w base g v1 v2 fst now wr) : IsCells w 0 g v1 v2 fst now wr :=
  ⟨h.blk, Nat.zero_le _, Kd.R_lower h.fst_ (Nat.zero_le _), Kd.R_lower h.now_ (Nat.zero_le _), h.len⟩
/-- Cells, owned. -/
def cells (g : Nat) (fst : List S43) (now : List Int) (wr : Int) : SL where
  P S w := ∃ v1 v2, IsCells w 0 g v1 v2 fst now wr ∧ ∀ i, S i ↔ All g v1 v2 i
  lt := by rintro S w ⟨v1, v2, h, hs⟩ i hi; exact h.lt i ((hs i).1 hi)
  move := by
    rintro S w w' ⟨v1, v2, h, hs⟩ hm
    exact ⟨v1, v2, ⟨(hm g ((hs g).2 (.inl rfl))).trans h.blk, h.base_, Kd.R_move h.fst_ (fun k hk => hm k ((hs k).2 (.inr (.inl hk)))), Kd.R_move h.now_ (fun k hk => hm k ((hs k).2 (.inr (.inr hk)))), h.len⟩, hs⟩
theorem chg_ {S : Nat → Prop} {w w1 : World} (h : Cel.Chg S w w1) : Sl.Chg S w w1 := ⟨h.os, h.tape, h.output, h.size, h.block⟩
section
variable {l : List SL} {w0 w : World} {g : Nat} {fst : List S43} {now : List Int} {wr : Int}
theorem new_st (h : St l w0 w) (A : Option Addr) (c : Nat) (hC : k43.C w A fst.length fst) (hn : fst.length ≤ 1000) :
    Calls Try.prog 23 #[.slice A fst.length c] w fun e w' => ∃ g, e = .returned (.pointer (some ⟨g, 0, none⟩)) ∧ St (cells g fst (fst.map (·.f0)) 0 :: l) w0 w' := by
  refine (new_calls A c hC hn).mono ?_
  rintro e w1 ⟨g, v1, v2, rfl, hI, hB⟩
  exact ⟨g, rfl, h.add (A := cells g _ _ _) (S2 := All g v1 v2) ⟨v1, v2, base0 hI, fun _ => Iff.rfl⟩ ⟨Sl.Chg.of_below hB, fun i hi => .inr (hI.ge i hi)⟩⟩
theorem open_ (h : St l w0 w) (n : Nat) (e : l[n]? = some (cells g fst now wr)) : ∃ v1 v2, IsCells w 0 g v1 v2 fst now wr ∧
    ∀ (now2 : List Int) (wr2 : Int) (w1 : World), IsCells w1 0 g v1 v2 fst now2 wr2 → Cel.Chg (Mut g v2) w w1 → St (l.set n (cells g fst now2 wr2)) w0 w1 := by
  obtain ⟨S1, ⟨v1, v2, hI, hs⟩, hk⟩ := h.at_ n _ e
  refine ⟨v1, v2, hI, fun now2 wr2 w1 h1 k1 => hk (cells g fst now2 wr2) w1 S1 ⟨v1, v2, h1, hs⟩ ⟨(chg_ k1).mono (fun i hi => (hs i).2 hi.all), fun i hi => .inl hi⟩⟩
theorem len_eq (h : St l w0 w) (n : Nat) (e : l[n]? = some (cells g fst now wr)) : now.length = fst.length := by
  obtain ⟨v1, v2, hI, _⟩ := open_ h n e
  exact hI.len
theorem set_st (h : St l w0 w) (n : Nat) (e : l[n]? = some (cells g fst now wr)) (i x : Int) (hw0 : 0 ≤ wr) (hw1 : wr ≤ 1000000) :
    Calls Try.prog 25 #[.pointer (some ⟨g, 0, none⟩), .int .i64 i, .int .u32 x] w fun e w' => e = .returned (.bool (inB i now.length)) ∧ St (l.set n (cells g fst (setN now i x) (setM now i wr))) w0 w' := by
  obtain ⟨v1, v2, hI, hk⟩ := open_ h n e
  refine (set_calls hI i x hw0 hw1).mono ?_
  rintro e w1 ⟨rfl, h1, k1⟩
  exact ⟨rfl, hk _ _ _ h1 k1⟩
theorem warm_st (h : St l w0 w) (n : Nat) (e : l[n]? = some (cells g fst now wr)) (hn : fst.length ≤ 1000000) :
    Calls Try.prog 27 #[.pointer (some ⟨g, 0, none⟩)] w fun e w' => e = .returned (.tuple #[]) ∧ St (l.set n (cells g fst (back false fst now fst.length) wr)) w0 w' := by
  obtain ⟨v1, v2, hI, hk⟩ := open_ h n e
  refine (warm_calls hI hn).mono ?_
  rintro e w1 ⟨rfl, h1, k1⟩
  exact ⟨rfl, hk _ _ _ h1 k1⟩
theorem cold_st (h : St l w0 w) (n : Nat) (e : l[n]? = some (cells g fst now wr)) (hn : fst.length ≤ 1000000) :
    Calls Try.prog 28 #[.pointer (some ⟨g, 0, none⟩)] w fun e w' => e = .returned (.tuple #[]) ∧ St (l.set n (cells g fst (fst.map (·.f0)) 0)) w0 w' := by
  obtain ⟨v1, v2, hI, hk⟩ := open_ h n e
  refine (cold_calls hI hn).mono ?_
  rintro e w1 ⟨rfl, h1, k1⟩
  rw [back_all fst now hI.len] at h1
  exact ⟨rfl, hk _ _ _ h1 k1⟩
theorem len_st (h : St l w0 w) (n : Nat) (e : l[n]? = some (cells g fst now wr)) :
    Calls Try.prog 31 #[.pointer (some ⟨g, 0, none⟩)] w fun e w' => e = .returned (.int .i64 (now.length : Int)) ∧ w = w' := by
  obtain ⟨v1, v2, hI, hk⟩ := open_ h n e
  exact len_calls hI
theorem writes_st (h : St l w0 w) (n : Nat) (e : l[n]? = some (cells g fst now wr)) :
    Calls Try.prog 29 #[.pointer (some ⟨g, 0, none⟩)] w fun e w' => e = .returned (.int .i64 wr) ∧ w = w' := by
  obtain ⟨v1, v2, hI, hk⟩ := open_ h n e
  exact writes_calls hI
theorem all_st (h : St l w0 w) (n : Nat) (e : l[n]? = some (cells g fst now wr)) (hn : now.length ≤ 1000000) :
    Calls Try.prog 26 #[.pointer (some ⟨g, 0, none⟩)] w fun e w' => ∃ v, e = .returned v ∧ St (SL.row (Kd.int .u32) 39 v now :: l) w0 w' := by
  obtain ⟨v1, v2, hI, hk⟩ := open_ h n e
  refine (all_calls hI hn).mono ?_
  rintro e w1 ⟨v, rfl, hR, hB⟩
  exact ⟨v, rfl, h.row hR hB⟩
theorem fresh_st (h : St l w0 w) (n : Nat) (e : l[n]? = some (cells g fst now wr)) :
    Calls Try.prog 24 #[.pointer (some ⟨g, 0, none⟩)] w fun e w' => e = .returned (.bool (fresh fst now)) ∧ St l w0 w' := by
  obtain ⟨v1, v2, hI, hk⟩ := open_ h n e
  refine (fresh_calls hI).mono ?_
  rintro e w1 ⟨rfl, hB⟩
  exact ⟨rfl, h.then_ hB⟩
theorem same_st (h : St l w0 w) (n m : Nat) (e : l[n]? = some (cells g fst now wr)) {g2 : Nat} {fst2 : List S43} {now2 : List Int} {wr2 : Int} (e2 : l[m]? = some (cells g2 fst2 now2 wr2)) (hn : now.length ≤ 1000000) :
    Calls Try.prog 30 #[.pointer (some ⟨g, 0, none⟩), .pointer (some ⟨g2, 0, none⟩)] w fun e w' => e = .returned (.bool (decide (now = now2))) ∧ St l w0 w' := by
  obtain ⟨v1, v2, hI, hk⟩ := open_ h n e
  obtain ⟨u1, u2, hJ, hk2⟩ := open_ h m e2
  refine (same_calls hI hJ hn).mono ?_
  rintro e w1 ⟨rfl, hD⟩
  exact ⟨rfl, h.drawn hD⟩
theorem awake_st (h : St l w0 w) : Calls Try.prog 22 #[] w fun e w' => e = .returned (.bool true) ∧ St l w0 w' := by
  refine (awake_calls w).mono ?_
  rintro e w1 ⟨rfl, hB⟩
  exact ⟨rfl, h.then_ hB⟩
end
end Go.Proofs.Ytkmhgolohppliaa.Cls
