/- Mode: modes asked for one behind the other, walked: the law ModePaths. -/
import Derived.Test.YtkmhgolohppliaaMod2
namespace Go.Proofs.Ytkmhgolohppliaa.Mod
open Go.RowKit Go.Proofs.Ytkmhgolohppliaa.PModeStarts Go.Proofs.YtkmhgolohppliaaW.PrintWords Go.Proofs.YtkmhgolohppliaaW.PrintLast Go.Proofs.YtkmhgolohppliaaW.PrintMore
set_option linter.unusedVariables false
attribute [local go_sem high] eqA30

/-- A row of numbers that came in. -/
def IsRow (k : IntKind) (w : World) (a : Option Addr) (len cap : Nat) (zs : List Int) : Prop :=
  (a = none ∧ len = 0 ∧ cap = 0 ∧ zs = []) ∨
  ∃ x, a = some x ∧ len ≤ cap ∧ cap ≤ maxLen ∧ zs.length = cap ∧ (∀ i, i < zs.length → w.cell? (x.add i) = some (.int k (zs.getD i 0))) ∧ ∀ n ∈ zs, (Lit.int k n).wf = true
theorem add_block (a : Addr) (n : Nat) : (a.add n).block = a.block := by unfold Addr.add; split <;> rfl
theorem IsRow.at_ {k : IntKind} {w : World} {a : Option Addr} {len cap : Nat} {zs : List Int} (h : IsRow k w a len cap zs) (i : Nat) (hi : i < len) :
    ∃ x, a = some x ∧ x.block < w.heap.size ∧ (Lit.int k (zs.getD i 0)).wf = true ∧ w.cell? (x.add i) = some (.int k (zs.getD i 0)) ∧ len ≤ cap := by
  rcases h with ⟨_, rfl, _, _⟩ | ⟨x, rfl, hl, hm, hz, hc, hw⟩
  · omega
  · have hlt : i < zs.length := by omega
    have hcell := hc i hlt
    refine ⟨x, rfl, ?_, ?_, hcell, hl⟩
    · have := World.block_lt_of_cell? w _ hcell
      rwa [add_block] at this
    · apply hw
      rw [List.getD_eq_getElem?_getD, List.getElem?_eq_getElem hlt]
      exact List.getElem_mem hlt
theorem IsRow.len_le {k : IntKind} {w : World} {a : Option Addr} {len cap : Nat} {zs : List Int} (h : IsRow k w a len cap zs) : len ≤ 9223372036854775807 := by
  rcases h with ⟨_, rfl, _, _⟩ | ⟨x, rfl, hl, hm, hz, hc, hw⟩
  · omega
  · unfold maxLen at hm; omega

/-- The mode behind k askings. -/
def nowAt (f : Int) (ws : List Int) : Nat → Int
  | 0 => f
  | k + 1 => (setM (nowAt f ws k) (ws.getD k 0)).1
/-- What becomes at asking k. -/
def chg (f : Int) (ws : List Int) (k : Nat) : S30 := ⟨(setM (nowAt f ws k) (ws.getD k 0)).1, (setM (nowAt f ws k) (ws.getD k 0)).2.1, (setM (nowAt f ws k) (ws.getD k 0)).2.2⟩
def path (f : Int) (ws : List Int) (n : Nat) : List S30 := (List.range n).map (chg f ws)
theorem path_len (f : Int) (ws : List Int) (n : Nat) : (path f ws n).length = n := by simp [path]
theorem path_snoc (f : Int) (ws : List Int) (n : Nat) : path f ws (n + 1) = path f ws n ++ [chg f ws n] := by unfold path; rw [List.range_succ, List.map_append]; rfl
theorem path_at (f : Int) (ws : List Int) (n k : Nat) (h : k < n) : rd_T30 (path f ws n) (k : Int) = chg f ws k := by
  unfold rd_T30 path
  rw [Int.toNat_natCast, List.getD_eq_getElem?_getD, List.getElem?_map, List.getElem?_range h]
  rfl

theorem new_stays {base : Nat} {ok : Nat → Prop} {v : Value} {xs : List S30} {w2 w3 : World} {p0 p1 p2 : Int} (h : k30.R 30 w2 base ok v xs)
    (hg : (w2.alloc (.cells #[.int .i64 p0, .int .i64 p1, .int .i64 p2] 30)).grownBy w3 v.ownBlock) : w3.cell? ⟨w2.heap.size, 0, none⟩ = some (.int .i64 p0) := by
  have hx2 : some w2.heap.size ≠ v.ownBlock := by
    obtain ⟨inner, ho⟩ := Kd.R_own h
    intro e
    have := own_lt ho _ e.symm
    omega
  have hb3 : w3.heap[w2.heap.size]? = some (.cells #[.int .i64 p0, .int .i64 p1, .int .i64 p2] 30 (0, 0)) := blk_grown (blk_new w2 _) hg hx2
  exact blk_cell hb3 0

set_option maxHeartbeats 1600000 in
set_option maxRecDepth 100000 in
theorem path_calls (f : Int) (a : Option Addr) (len cap : Nat) (zs : List Int) (w : World) (hr : IsRow .i64 w a len cap zs) (hn : len ≤ 60) :
    Calls Try.prog 17 #[.int .i64 f, .slice a len cap] w fun e w' => ∃ v, e = .returned v ∧ k30.R 30 w' w.heap.size (fun _ => True) v (path f zs len) ∧ Below w.heap.size w w' := by
  have HR := Go.Lib.hid hr
  clear hr
  go_enter Try.func17, Try.ntmps17
  go_wp2_with fail
  go_loopw [0, 5, 11] (fun now out i wr => ∃ (k : Nat) (s : Value), k ≤ len ∧ i = .int .i64 k ∧ now = .int .i64 (nowAt f zs k) ∧ out = s ∧ k30.R 30 wr w.heap.size (fun _ => True) s (path f zs k) ∧ Below w.heap.size w wr) (fun _ _ i _ => len - (intOf i).toNat)
  case atStart => exact ⟨0, _, Nat.zero_le _, rfl, rfl, rfl, Kd.R_nil _ _ _ _ _, Below.refl _ _⟩
  case round =>
    obtain ⟨k, s, hk, rfl, rfl, rfl, hRk, hBk⟩ := hrel
    have HRk := Go.Lib.hid hRk
    have HBk := Go.Lib.hid hBk
    clear hRk hBk
    by_cases hlt : k < len
    · obtain ⟨x, rfl, hxb, hwf, hcell, hlc⟩ := HR.out.at_ k hlt
      have hc : wr.cell? (x.add k) = some (.int .i64 (zs.getD k 0)) := by rw [HBk.out.cell (by rw [add_block]; exact hxb)]; exact hcell
      have hnext : nowAt f zs (k + 1) = (chg f zs k).f0 := rfl
      have HC := Go.Lib.hid (set_calls (nowAt f zs k) (zs.getD k 0))
      have HE : Hid (setM (nowAt f zs k) (zs.getD k 0) = ((chg f zs k).f0, (chg f zs k).f1, (chg f zs k).f2)) := Go.Lib.hid rfl
      rw [HE.out] at HC
      clear HE hcell hwf
      have HN := Go.Lib.hid hnext
      have HP := Go.Lib.hid (path_snoc f zs k)
      clear hnext
      generalize zs.getD k 0 = z at *
      generalize hch : chg f zs k = p at *
      clear hch
      obtain ⟨p0, p1, p2⟩ := p
      go_wp2_with fail
      refine (HC.out wr).mono ?_
      rintro e w2 ⟨rfl, hB2⟩
      have HR2 := Go.Lib.hid (Kd.R_below HRk.out hB2)
      have HB2 := Go.Lib.hid (HBk.out.trans (hB2.mono HBk.out.size))
      clear hB2 HRk HBk
      go_wp2_with (first | (at_builtin; refine Kd.R_append k30 (w0 := w) w.heap.size rfl (.tmp 18) (.tmp 20) 24 30 (.agg #[(.int .i64 0), (.int .i64 0), (.int .i64 0)]) 24 rfl Try.underlying24 info30 rfl (by decide) (by decide) u5 (path f zs k) (⟨p0, p1, p2⟩ : S30) [.int .i64 p0, .int .i64 p1, .int .i64 p2] (fun _ => True) (fun _ => False) rfl ?aX ?aP (fun _ hk => hk.elim) (fun _ _ => trivial) ?aO ?aB ?aS ?aL ?_; (case aX => show Value.slice (some ⟨w2.heap.size + 1, 0, none⟩) 1 1 = _; simp); (case aP => exact k30_mkM _ _ _ (⟨p0, p1, p2⟩ : S30)); (case aO => exact Kd.R_alloc HR2.out _); (case aB => exact below_alloc HB2.out _); (case aS => have := HB2.out.size; simp; omega); (case aL => rw [path_len]; omega); intro v1 w3 hR3 hB3 hg3 hat3; have HR3 := Go.Lib.hid hR3; have HB3 := Go.Lib.hid hB3; have hc3 := new_stays HR2.out hg3; clear hR3 hB3 hg3 hat3))
      go_roundw
      case rel => exact ⟨k + 1, _, by omega, by go_num, by rw [HN.out], rfl, by rw [HP.out]; exact HR3.out, HB3.out⟩
      case measure => simp [intOf]; omega
    · obtain rfl : k = len := by omega
      go_wp2_with fail
      go_ret
      exact ⟨_, rfl, HRk.out, HBk.out⟩

theorem idle_stays (want : Int) : (setM 0 want).1 = 0 := by
  unfold setM askd
  have h : runs 0 = false := by decide
  by_cases a : right want = true
  · simp [a, h]
  · simp [a]

set_option maxHeartbeats 1600000 in
set_option maxRecDepth 100000 in
theorem modePaths_walk (w : World) (f : Int) (wf : (Lit.int .i64 f).wf = true) (a : Option Addr) (len cap : Nat) (zs : List Int) (hr : IsRow .i64 w a len cap zs) :
    Calls Try.prog 3 #[.int .i64 f, .slice a len cap] w fun e w' => e = .returned (.bool true) ∧ Below w.heap.size w w' := by
  have hlen := hr.len_le
  have HR := Go.Lib.hid hr
  clear hr wf
  by_cases hl : (60 : Int) < (len : Int)
  · have hl' : decide ((60 : Int) < (len : Int)) = true := by simpa using hl
    go_enter Try.func3, Try.ntmps3
    go_wp2_with fail
    refine (awake_calls w).mono ?_
    rintro e w5 ⟨rfl, hB5⟩
    have HB := Go.Lib.hid hB5
    clear hB5
    go_wp2_with fail
    go_ret
    exact ⟨rfl, HB.out⟩
  · have hl' : decide ((60 : Int) < (len : Int)) = false := by simpa using hl
    have hl6 : len ≤ 60 := by omega
    clear hl
    go_enter Try.func3, Try.ntmps3
    go_wp2_with fail
    refine (path_calls f a len cap zs w HR.out hl6).mono ?_
    rintro e w1 ⟨v, rfl, hR1, hB1⟩
    obtain ⟨A, c, rfl, hc1, hC1⟩ := Kd.R_reads hR1
    rw [path_len] at *
    have HC1 := Go.Lib.hid hC1
    have HB1 := Go.Lib.hid hB1
    clear hR1 hB1 hC1 hc1
    go_wp2_with fail
    go_loopw [6, 27] (fun now i wr => ∃ (k : Nat), k ≤ len ∧ i = .int .i64 k ∧ now = .int .i64 (nowAt f zs k) ∧ Below w1.heap.size w1 wr) (fun _ i _ => len - (intOf i).toNat)
    case atStart => exact ⟨0, Nat.zero_le _, rfl, rfl, Below.refl _ _⟩
    case round =>
      obtain ⟨k, hk, rfl, rfl, hBk⟩ := hrel
      have HBk := Go.Lib.hid hBk
      clear hBk
      by_cases hlt : k < len
      · obtain ⟨x, rfl, hxb, hwf, hcell, hlc⟩ := HR.out.at_ k hlt
        have hx1 : w1.cell? (x.add k) = some (.int .i64 (zs.getD k 0)) := by rw [HB1.out.cell (by rw [add_block]; exact hxb)]; exact hcell
        have hc : wr.cell? (x.add k) = some (.int .i64 (zs.getD k 0)) := by rw [HBk.out.cell (by rw [add_block]; have := HB1.out.size; omega)]; exact hx1
        have hidle : nowAt f zs k = 0 → (chg f zs k).f0 = 0 := by
          intro h0
          unfold chg
          rw [h0]
          exact idle_stays _
        have hnext : nowAt f zs (k + 1) = (chg f zs k).f0 := rfl
        have HC := Go.Lib.hid (rset_calls (nowAt f zs k) (zs.getD k 0))
        have HE : Hid (setM (nowAt f zs k) (zs.getD k 0) = ((chg f zs k).f0, (chg f zs k).f1, (chg f zs k).f2)) := Go.Lib.hid rfl
        rw [HE.out] at HC
        clear HE hcell hwf hx1
        have HN := Go.Lib.hid hnext
        obtain ⟨ad, rfl, g0, g1, g2⟩ := at_T30 (Kd.C_below HC1.out HBk.out) (k : Int) (by omega) (by omega)
        rw [path_at _ _ _ _ hlt, Int.toNat_natCast] at g0 g1 g2
        clear hnext
        generalize zs.getD k 0 = z at *
        generalize hch : chg f zs k = p at *
        clear hch
        obtain ⟨p0, p1, p2⟩ := p
        have G0 := Go.Lib.hid g0
        have G1 := Go.Lib.hid g1
        have G2 := Go.Lib.hid g2
        clear g0 g1 g2
        generalize nowAt f zs k = now at *
        have HI := Go.Lib.hid hidle
        clear hidle
        go_wp2_with fail
        refine (HC.out wr).mono ?_
        rintro e w2 ⟨rfl, hB2⟩
        have g0 := (hB2.cell (World.block_lt_of_cell? _ _ G0.out)).trans G0.out
        have g1 := (hB2.cell (World.block_lt_of_cell? _ _ G1.out)).trans G1.out
        have g2 := (hB2.cell (World.block_lt_of_cell? _ _ G2.out)).trans G2.out
        have HB2 := Go.Lib.hid (HBk.out.trans (hB2.mono HBk.out.size))
        clear hB2
        by_cases h0 : now = 0
        · have hz1 : (now == 0) = true := beq_iff_eq.2 h0
          have hz2 : (p0 != 0) = false := bne_eq_false_iff_eq.2 (HI.out h0)
          clear h0
          go_wp2_with fail
          go_roundw
          case rel => exact ⟨k + 1, by omega, by go_num, by rw [HN.out], HB2.out⟩
          case measure => simp [intOf]; omega
        · have hz1 : (now == 0) = false := beq_eq_false_iff_ne.2 h0
          clear h0
          go_wp2_with fail
          go_roundw
          case rel => exact ⟨k + 1, by omega, by go_num, by rw [HN.out], HB2.out⟩
          case measure => simp [intOf]; omega
      · obtain rfl : k = len := by omega
        go_wp2_with fail
        refine (awake_calls wr).mono ?_
        rintro e w5 ⟨rfl, hB5⟩
        have HB5 := Go.Lib.hid hB5
        clear hB5
        go_wp2_with fail
        go_ret
        exact ⟨rfl, HB1.out.trans ((HBk.out.trans (HB5.out.mono HBk.out.size)).mono HB1.out.size)⟩
end Go.Proofs.Ytkmhgolohppliaa.Mod
