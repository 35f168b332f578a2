/- PortOrder, walked. -/
import Derived.Test.YtolokohgphdngaaQue3
import Derived.Test.YtolokohgphdngaaOst
namespace Go.Proofs.Ytolokohgphdngaa.Que
open Go.RowKit Go.Proofs.YtolokohgphdngaaW.PrintWords Go.Proofs.YtolokohgphdngaaW.PrintLast Go.Proofs.YtolokohgphdngaaW.PrintMore Go.Proofs.Ytolokohgphdngaa.Mine
open Go.Proofs.Ytolokohgphdngaa.Sl (SL Stp Chg St No)
open Go.Proofs.Ytolokohgphdngaa.Por (awake_st)
set_option linter.unusedVariables false
set_option linter.unusedSimpArgs false
attribute [local go_sem] max2_int min2_int max_two min_two max_three min_three max_four min_four
variable {l : List SL} {w0 w : World} {g : Nat} {q : QS}
theorem send_st (h : St l w0 w) (k : Nat) (e : l[k]? = some (que g q)) (hk : Okq q) (m : ByteArray) (hL0 : 0 ≤ q.lost) (hL1 : q.lost ≤ 1000000) : Calls Try.prog 17 #[.pointer (some ⟨g, 0, none⟩), .string m] w fun e w' => e = .returned (.int .i64 (send q m).1) ∧ St (l.set k (que g (send q m).2)) w0 w' :=
  (send_hd (h.front k _ e) hk m hL0 hL1).mono fun _ _ ⟨he, hS⟩ => ⟨he, St.back k (List.getElem?_eq_some_iff.1 e).1 hS⟩
/-- Where the law stands. -/
structure At (size depth : Int) (kept : List ByteArray) (got : Nat) (lost : Int) (q : QS) (k : Nat) : Prop where
  hold : Hold q (kept.drop got)
  g1 : got ≤ kept.length
  k1 : kept.length ≤ k
  l0 : 0 ≤ lost
  l1 : lost ≤ k
  ql : q.lost = lost
  qs : q.size = size
  qd : (q.ring.length : Int) = depth
theorem send_lost (q : QS) (m : ByteArray) : (send q m).2.size = q.size ∧ (send q m).2.ring.length = q.ring.length := by
  unfold send
  split
  · exact ⟨rfl, rfl⟩
  · split
    · exact ⟨rfl, rfl⟩
    · exact ⟨rfl, List.length_set⟩
theorem At.send {size depth lost : Int} {kept : List ByteArray} {got k : Nat} (h : At size depth kept got lost q k) (m : ByteArray) {code : Int} {q2 : QS} (hs : send q m = (code, q2)) :
    (code = 0 ∧ At size depth (kept ++ [m]) got lost q2 (k + 1)) ∨ (code = 2 ∧ At size depth kept got (lost + 1) q2 (k + 1)) ∨ (code = 3 ∧ At size depth kept got lost q2 (k + 1)) := by
  have hk := h.k1
  have hg := h.g1
  have hl := h.l1
  have h0 := h.l0
  obtain ⟨hz, hr⟩ := send_lost q m
  rw [hs] at hz hr
  cases hf : fitsB m q.size with
  | false =>
    rw [send_unfit m hf] at hs
    obtain ⟨rfl, rfl⟩ := Prod.mk.inj hs
    exact .inr (.inr ⟨rfl, h.hold, hg, by omega, h0, by omega, h.ql, h.qs, h.qd⟩)
  | true =>
    by_cases hn : q.n = q.ring.length
    · obtain ⟨e1, e2⟩ := send_full h.hold m hf hn
      rw [e1] at hs
      obtain ⟨rfl, rfl⟩ := Prod.mk.inj hs
      exact .inr (.inl ⟨rfl, e2, hg, by omega, by omega, by omega, by rw [← h.ql], h.qs, h.qd⟩)
    · obtain ⟨e1, e2⟩ := h.hold.send m hf hn
      have hlo : (Que.send q m).2.lost = q.lost := by
        unfold Que.send
        rw [if_neg (by simp [hf]), if_neg hn]
      rw [hs] at e1 e2 hlo
      simp only at e1 e2 hlo hz hr
      subst e1
      refine .inl ⟨rfl, by rw [List.drop_append_of_le_length hg]; exact e2, by rw [List.length_append]; omega, by rw [List.length_append, List.length_singleton]; omega, h0, by omega, hlo.trans h.ql, hz.trans h.qs, by rw [hr]; exact h.qd⟩
theorem send_to (h : St l w0 w) (k : Nat) (e : l[k]? = some (que g q)) (hk : Okq q) (m : ByteArray) (hL0 : 0 ≤ q.lost) (hL1 : q.lost ≤ 1000000) {code : Int} {q2 : QS} (hs : send q m = (code, q2)) : Calls Try.prog 17 #[.pointer (some ⟨g, 0, none⟩), .string m] w fun e w' => e = .returned (.int .i64 code) ∧ St (l.set k (que g q2)) w0 w' := by
  have := send_st h k e hk m hL0 hL1
  rw [hs] at this
  exact this
/-- A message is taken. -/
theorem At.recv {size depth lost : Int} {kept : List ByteArray} {got k : Nat} (h : At size depth kept got lost q k) : (got < kept.length ∧ (Que.recv q).1 = rdOf ByteArray.empty kept got ∧ (Que.recv q).2.1 = 0 ∧ At size depth kept (got + 1) lost (Que.recv q).2.2 k) ∨ (got = kept.length ∧ Que.recv q = (⟨#[]⟩, 2, q)) := by
  have hg := h.g1
  by_cases c : got < kept.length
  · left
    have hh := h.hold
    rw [List.drop_eq_getElem_cons c] at hh
    obtain ⟨e1, e2, e3, e4, e5⟩ := hh.recv
    have hr : (Que.recv q).2.2.ring.length = q.ring.length := by unfold Que.recv; split; rfl; exact List.length_set
    refine ⟨c, ?_, e2, e3, by omega, h.k1, h.l0, h.l1, e4.trans h.ql, e5.trans h.qs, by rw [hr]; exact h.qd⟩
    rw [e1]; unfold rdOf; simp [List.getD, c]
  · right
    have : got = kept.length := by omega
    subst this
    have hh := h.hold
    rw [List.drop_length] at hh
    exact ⟨rfl, recv_none hh⟩
theorem len_to (h : St l w0 w) (k : Nat) (e : l[k]? = some (que g q)) {x : Int} (hx : q.n = x) : Calls Try.prog 19 #[.pointer (some ⟨g, 0, none⟩)] w fun e w' => e = .returned (.int .i64 x) ∧ St l w0 w' := by rw [← hx]; exact (len_st h k e).mono fun _ _ ⟨he, hw⟩ => ⟨he, hw ▸ h⟩
theorem lost_to (h : St l w0 w) (k : Nat) (e : l[k]? = some (que g q)) {x : Int} (hx : q.lost = x) : Calls Try.prog 20 #[.pointer (some ⟨g, 0, none⟩)] w fun e w' => e = .returned (.int .i64 x) ∧ St l w0 w' := by rw [← hx]; exact (lost_st h k e).mono fun _ _ ⟨he, hw⟩ => ⟨he, hw ▸ h⟩
theorem recv_to (h : St l w0 w) (k : Nat) (e : l[k]? = some (que g q)) (hk : Okq q) {m : ByteArray} {code : Int} {q2 : QS} (h1 : (recv q).1 = m) (h2 : (recv q).2.1 = code) (h3 : (recv q).2.2 = q2) : Calls Try.prog 18 #[.pointer (some ⟨g, 0, none⟩)] w fun e w' => e = .returned (.tuple #[.string m, .int .i64 code]) ∧ St (l.set k (que g q2)) w0 w' := by
  have := recv_st h k e hk
  rw [h1, h2, h3] at this
  exact this
theorem At.n_is {size depth lost : Int} {kept : List ByteArray} {got k : Nat} (h : At size depth kept got lost q k) : q.n = (kept.length : Int) - got := by
  have := h.hold.len
  have hg := h.g1
  rw [List.length_drop] at this
  omega
theorem At.n_le {size depth lost : Int} {kept : List ByteArray} {got k : Nat} (h : At size depth kept got lost q k) : decide (depth < (kept.length : Int) - got) = false := by
  have := h.n_is
  have h1 := h.hold.ok.n1
  have h2 := h.qd
  simp; omega
theorem no_st (h : St l w0 w) (size depth : Int) (hb : size < 1 ∨ 8192 < size ∨ depth < 1 ∨ 512 < depth) : Calls Try.prog 16 #[.int .i64 size, .int .i64 depth] w fun e w' => e = .returned (.tuple #[.pointer none, .int .i64 4]) ∧ St l w0 w' :=
  (new_no size depth w hb).mono fun _ _ ⟨he, hw⟩ => ⟨he, hw ▸ h⟩

set_option maxHeartbeats 6400000 in
set_option maxRecDepth 100000 in
theorem portOrder_walk (w : World) (size : Int) (wf1 : (Lit.int .i64 size).wf = true) (depth : Int) (wf2 : (Lit.int .i64 depth).wf = true) (A : Option Addr) (n c : Nat) (xs : List ByteArray) (hr : n ≤ c ∧ Kd.string.C w A n xs ∧ ∀ z ∈ xs, z.size ≤ maxLen)
    (TA : Option Addr) (tn tc : Nat) (tk : List Int) (ht : tn ≤ tc ∧ (Kd.int .u8).C w TA tn tk ∧ ∀ z ∈ tk, (Lit.int .u8 z).wf = true) :
    Calls Try.prog 4 #[.int .i64 size, .int .i64 depth, .slice A n c, .slice TA tn tc] w fun e w' => e = .returned (.bool true) ∧ Below w.heap.size w w' := by
  have hC := Go.Lib.hid hr.2.1
  have hT := Go.Lib.hid ht.2.1
  clear hr ht wf1 wf2
  have HS := Go.Lib.hid (St.start w)
  by_cases h1 : (60 : Int) < (n : Int)
  · have h1' : decide ((60 : Int) < (n : Int)) = true := by simpa using h1
    clear h1
    go_enter Try.func4, Try.ntmps4
    go_wp2_with (first | (go_at_call 9; refine (awake_st HS.out).mono ?_; rintro e w1_ ⟨rfl, HSn⟩; replace HS : Hid (St [] w w1_) := Go.Lib.hid HSn; clear HSn))
    go_ret
    exact ⟨rfl, HS.out.below⟩
  have h1' : decide ((60 : Int) < (n : Int)) = false := by simpa using h1
  have hn : n ≤ 60 := by omega
  clear h1
  by_cases hbad : size < 1 ∨ 8192 < size ∨ depth < 1 ∨ 512 < depth
  · go_enter Try.func4, Try.ntmps4
    go_wp2_with (first | (go_at_call 16; refine (no_st HS.out size depth hbad).mono ?_; rintro e w1_ ⟨rfl, HSn⟩; replace HS : Hid (St [] w w1_) := Go.Lib.hid HSn; clear HSn) | (go_at_call 9; refine (awake_st HS.out).mono ?_; rintro e w2_ ⟨rfl, HSn⟩; replace HS : Hid (St [] w w2_) := Go.Lib.hid HSn; clear HSn))
    go_ret
    exact ⟨rfl, HS.out.below⟩
  have hz1 : 1 ≤ size := by omega
  have hz2 : size ≤ 8192 := by omega
  have hz3 : 1 ≤ depth := by omega
  have hz4 : depth ≤ 512 := by omega
  clear hbad
  go_enter Try.func4, Try.ntmps4
  go_wp2_with (first | (go_at_call 16; refine (new_st size depth HS.out hz1 hz2 hz3 hz4).mono ?_; rintro e w1_ ⟨g9, rfl, HSn⟩; replace HS : Hid (St [que g9 ⟨size, List.replicate depth.toNat ByteArray.empty, 0, 0, 0⟩] w w1_) := Go.Lib.hid HSn; clear HSn))
  go_loopw [11, 12, 13, 46] (fun a b d i wr => ∃ (k got : Nat) (kept : List ByteArray) (lost : Int) (q : QS) (A9 : Option Addr) (c9 : Nat), k ≤ n ∧ a = .slice A9 kept.length c9 ∧ b = .int .i64 lost ∧ d = .int .i64 got ∧ i = .int .i64 k ∧ At size depth kept got lost q k ∧ St [SL.row Kd.string 9 (.slice A9 (kept).length c9) (kept), que g9 q] w wr) (fun _ _ _ i _ => n - (intOf i).toNat)
  case atStart => exact ⟨0, 0, [], 0, _, none, 0, Nat.zero_le _, rfl, rfl, rfl, rfl, ⟨Hold.new size depth hz3 hz4, Nat.le_refl _, Nat.le_refl _, Int.le_refl _, Int.le_refl _, rfl, rfl, by simp; omega⟩, HS.out.add (SL.row_nil _ _ _) (Stp.refl No _)⟩
  case round =>
    clear HS
    obtain ⟨k, got, kept, lost, q, A9, c9, hk, rfl, rfl, rfl, rfl, hI, hS⟩ := hrel
    have HS := Go.Lib.hid hS
    have HI := Go.Lib.hid hI
    clear hS hI
    by_cases hlt : k < n
    · obtain ⟨ad, rfl, g0⟩ := Kd.at_string (HS.out.C hC.out) (k : Int) (by omega) (by omega)
      generalize rdOf ByteArray.empty xs (k : Int) = x at *
      rw [Int.toNat_natCast] at g0
      obtain ⟨code, q2, hse⟩ : ∃ a b, send q x = (a, b) := ⟨_, _, rfl⟩
      have hcase := HI.out.send x hse
      have HSE := Go.Lib.hid hse
      have HCS := Go.Lib.hid hcase
      clear hse hcase
      go_upto_block 2 with (first | (go_at_call 17; refine (send_to HS.out 1 rfl HI.out.hold.ok x (by rw [HI.out.ql]; exact HI.out.l0) (by rw [HI.out.ql]; have := HI.out.l1; omega) HSE.out).mono ?_; rintro e w21_ ⟨rfl, HSn⟩; replace HS : Hid (St [SL.row Kd.string 9 (.slice A9 (kept).length c9) (kept), que g9 q2] w w21_) := Go.Lib.hid HSn; clear HSn))
      go_cut [11, 12] (fun a b wx => ∃ (kept : List ByteArray) (lost : Int) (A9 : Option Addr) (c9 : Nat), a = .slice A9 kept.length c9 ∧ b = .int .i64 lost ∧ At size depth kept got lost q2 (k + 1) ∧ St [SL.row Kd.string 9 (.slice A9 (kept).length c9) (kept), que g9 q2] w wx)
      case first =>
        rcases HCS.out with ⟨rfl, hA⟩ | ⟨rfl, hA⟩ | ⟨rfl, hA⟩
        · have HA := Go.Lib.hid hA
          clear hA
          go_wp2_with (first | ((with_reducible refine gate_dst (N := 59) rfl ?_); refine Sl.append_st (Kd.string) (flat_string) HS.out 0 ((.slice A9 kept.length c9)) (kept) 9 rfl (by rfl) (.tmp 56) (.tmp 58) 41 (.string ByteArray.empty) 16 rfl Try.underlying41 (by kernel_rfl) rfl (by decide) (by decide) (x) [.string x] rfl rfl ?hp ?hb ?_; (case hp => first | rfl | exact k9_mk _ _); (case hb => (have := HI.out.k1; omega)); intro v1_ w41_ HSn; obtain ⟨A8_, c8_, hv2_, _⟩ := HSn.rowC 0 rfl; subst hv2_; replace HS : Hid (St [SL.row (Kd.string) 9 (.slice A8_ (kept ++ [x]).length c8_) (kept ++ [x]), que g9 q2] w w41_) := Go.Lib.hid HSn; clear HSn))
          go_meet
          exact ⟨kept ++ [x], lost, A8_, c8_, by first | rfl | simp, by first | rfl | simp, HA.out, HS.out⟩
        · have HA := Go.Lib.hid hA
          have hw : wrap64 (lost + 1) = lost + 1 := by have h0 := HI.out.l0; have h1 := HI.out.l1; unfold wrap64; omega
          clear hA
          go_wp2_with fail
          go_meet
          exact ⟨kept, lost + 1, _, _, rfl, rfl, HA.out, HS.out⟩
        · have HA := Go.Lib.hid hA
          clear hA
          go_wp2_with fail
          go_meet
          exact ⟨kept, lost, _, _, rfl, rfl, HA.out, HS.out⟩
      case rest =>
        clear HS HSE HCS HI g0
        obtain ⟨kept, lost, A9, c9, rfl, rfl, hA, hS⟩ := hcut
        have HS := Go.Lib.hid hS
        have HA := Go.Lib.hid hA
        clear hA hS
        go_wp2_with fail
        go_loopw [13, 16] (fun d j wq => ∃ (got : Nat) (q : QS) (j0 : Int), d = .int .i64 got ∧ j = .int .u8 j0 ∧ 0 ≤ j0 ∧ j0 ≤ 4 ∧ At size depth kept got lost q (k + 1) ∧ St [SL.row Kd.string 9 (.slice A9 (kept).length c9) (kept), que g9 q] w wq) (fun _ j _ => 4 - (intOf j).toNat)
        case atStart => exact ⟨got, q2, 0, rfl, rfl, Int.le_refl _, by decide, HA.out, HS.out⟩
        case round =>
          clear HS HA
          obtain ⟨got, q, j0, rfl, rfl, hj0, hj1, hI, hS⟩ := hrel
          have HS := Go.Lib.hid hS
          have HI := Go.Lib.hid hI
          clear hS hI
          by_cases hkt : k < tn
          · obtain ⟨ad2, rfl, g1⟩ := Kd.at_int (HS.out.C hT.out) (k : Int) (by omega) (by omega)
            rw [Int.toNat_natCast] at g1
            have hkt' : decide ((k : Int) < (tn : Int)) = true := by simp; omega
            generalize rd tk (k : Int) = t0 at *
            obtain ⟨tm, htm⟩ : ∃ z, z = t0.tmod 4 := ⟨_, rfl⟩
            have ht4 : tm ≤ 3 := by have := Int.tmod_lt_of_pos t0 (show (0 : Int) < 4 by decide); omega
            by_cases hm : j0 < t0.tmod 4
            · have hm' : decide (j0 < t0.tmod 4) = true := by simpa using hm
              have hj3 : j0 + 1 ≤ 4 := by omega
              have hj2 : j0 + 1 ≤ 255 := by omega
              clear hm htm
              rcases HI.out.recv with ⟨hg, e1, e2, hA⟩ | ⟨hg, e1⟩
              · have E1 := Go.Lib.hid e1
                have E2 := Go.Lib.hid e2
                have HA := Go.Lib.hid hA
                have hg' : decide ((got : Int) < (kept.length : Int)) = true := by simp; omega
                clear e1 e2 hA
                go_upto_region 20 with (first | (go_at_call 18; refine (recv_to HS.out 1 rfl HI.out.hold.ok E1.out E2.out rfl).mono ?_; rintro e w61_ ⟨rfl, HSn⟩; replace HS : Hid (St [SL.row Kd.string 9 (.slice A9 (kept).length c9) (kept), que g9 (recv q).2.2] w w61_) := Go.Lib.hid HSn; clear HSn))
                obtain ⟨A', c', hv, _, hK⟩ := HS.out.rowC 0 rfl
                injection hv with q1_ _ q2_
                subst q1_ q2_
                obtain ⟨ad3, rfl, g3⟩ := Kd.at_string hK (got : Int) (by omega) (by omega)
                rw [Int.toNat_natCast] at g3
                generalize rdOf ByteArray.empty kept (got : Int) = y0 at *
                have hmn : min ((got : Int) + 1) (kept.length : Int) = ((got + 1 : Nat) : Int) := by omega
                clear hK
                go_wp2_with fail
                go_roundw
                case rel => exact ⟨got + 1, (recv q).2.2, j0 + 1, by rw [show wrap64 ((got : Int) + 1) = (got : Int) + 1 from by have := HA.out.k1; unfold wrap64; omega, if_neg (by omega)]; rfl, by go_num, by omega, by omega, HA.out, HS.out⟩
                case measure => simp [intOf]; omega
              · have hg' : decide ((got : Int) < (kept.length : Int)) = false := by simp; omega
                have E1 := Go.Lib.hid e1
                clear e1
                go_wp2_with (first | (go_at_call 18; refine (recv_to HS.out 1 rfl HI.out.hold.ok (m := ⟨#[]⟩) (code := 2) (q2 := q) (by rw [E1.out]) (by rw [E1.out]) (by rw [E1.out])).mono ?_; rintro e w61_ ⟨rfl, HSn⟩; replace HS : Hid (St [SL.row Kd.string 9 (.slice A9 (kept).length c9) (kept), que g9 q] w w61_) := Go.Lib.hid HSn; clear HSn))
                go_roundw
                case rel => exact ⟨got, q, j0 + 1, by rw [show wrap64 ((kept.length : Int) + 1) = (kept.length : Int) + 1 from by have := HI.out.k1; unfold wrap64; omega, if_pos (by omega), hg], by go_num, by omega, by omega, HI.out, HS.out⟩
                case measure => simp [intOf]; omega
            · have hm' : decide (j0 < t0.tmod 4) = false := by simpa using hm
              clear hm htm
              have hle := HI.out.n_le
              have hw1 : wrap64 ((kept.length : Int) - (got : Int)) = (kept.length : Int) - (got : Int) := by have h1_ := HI.out.g1; have h2_ := HI.out.k1; unfold wrap64; omega
              have HNI := Go.Lib.hid HI.out.n_is
              go_wp2_with (first | (go_at_call 19; refine (len_to HS.out 1 rfl HNI.out).mono ?_; rintro e w61_ ⟨rfl, HSn⟩; replace HS : Hid (St [SL.row Kd.string 9 (.slice A9 (kept).length c9) (kept), que g9 q] w w61_) := Go.Lib.hid HSn; clear HSn) | (go_at_call 20; refine (lost_to HS.out 1 rfl HI.out.ql).mono ?_; rintro e w62_ ⟨rfl, HSn⟩; replace HS : Hid (St [SL.row Kd.string 9 (.slice A9 (kept).length c9) (kept), que g9 q] w w62_) := Go.Lib.hid HSn; clear HSn))
              go_roundw
              case rel => exact ⟨k + 1, got, kept, lost, q, A9, c9, by omega, rfl, rfl, rfl, by go_num, HI.out, HS.out⟩
              case measure => simp [intOf]; omega
          · have hkt' : decide ((k : Int) < (tn : Int)) = false := by simp; omega
            have hle := HI.out.n_le
            have hw1 : wrap64 ((kept.length : Int) - (got : Int)) = (kept.length : Int) - (got : Int) := by have h1_ := HI.out.g1; have h2_ := HI.out.k1; unfold wrap64; omega
            have HNI := Go.Lib.hid HI.out.n_is
            go_wp2_with (first | (go_at_call 19; refine (len_to HS.out 1 rfl HNI.out).mono ?_; rintro e w61_ ⟨rfl, HSn⟩; replace HS : Hid (St [SL.row Kd.string 9 (.slice A9 (kept).length c9) (kept), que g9 q] w w61_) := Go.Lib.hid HSn; clear HSn) | (go_at_call 20; refine (lost_to HS.out 1 rfl HI.out.ql).mono ?_; rintro e w62_ ⟨rfl, HSn⟩; replace HS : Hid (St [SL.row Kd.string 9 (.slice A9 (kept).length c9) (kept), que g9 q] w w62_) := Go.Lib.hid HSn; clear HSn))
            go_roundw
            case rel => exact ⟨k + 1, got, kept, lost, q, A9, c9, by omega, rfl, rfl, rfl, by go_num, HI.out, HS.out⟩
            case measure => simp [intOf]; omega
    · go_wp2_with fail
      go_loopw [13] (fun d wq => ∃ (got : Nat) (q : QS), d = .int .i64 got ∧ At size depth kept got lost q k ∧ St [SL.row Kd.string 9 (.slice A9 (kept).length c9) (kept), que g9 q] w wq) (fun d _ => kept.length - (intOf d).toNat)
      case atStart => exact ⟨got, q, rfl, HI.out, HS.out⟩
      case round =>
        clear HS HI
        obtain ⟨got, q, rfl, hI, hS⟩ := hrel
        have HS := Go.Lib.hid hS
        have HI := Go.Lib.hid hI
        clear hS hI
        rcases HI.out.recv with ⟨hg, e1, e2, hA⟩ | ⟨hg, e1⟩
        · have E1 := Go.Lib.hid e1
          have E2 := Go.Lib.hid e2
          have HA := Go.Lib.hid hA
          have hg' : decide ((got : Int) < (kept.length : Int)) = true := by simp; omega
          clear e1 e2 hA
          go_upto_region 31 with (first | (go_at_call 18; refine (recv_to HS.out 1 rfl HI.out.hold.ok E1.out E2.out rfl).mono ?_; rintro e w71_ ⟨rfl, HSn⟩; replace HS : Hid (St [SL.row Kd.string 9 (.slice A9 (kept).length c9) (kept), que g9 (recv q).2.2] w w71_) := Go.Lib.hid HSn; clear HSn))
          obtain ⟨A', c', hv, _, hK⟩ := HS.out.rowC 0 rfl
          injection hv with q1_ _ q2_
          subst q1_ q2_
          obtain ⟨ad3, rfl, g3⟩ := Kd.at_string hK (got : Int) (by omega) (by omega)
          rw [Int.toNat_natCast] at g3
          generalize rdOf ByteArray.empty kept (got : Int) = y0 at *
          clear hK
          have hw2 : wrap64 ((got : Int) + 1) = ((got + 1 : Nat) : Int) := by have := HA.out.k1; unfold wrap64; omega
          go_wp2_with fail
          go_roundw
          case rel => exact ⟨got + 1, (recv q).2.2, by rw [hw2], HA.out, HS.out⟩
          case measure => generalize wrap64 ((got : Int) + 1) = z at hw2 ⊢; subst hw2; simp only [intOf, Int.toNat_natCast]; omega
        · have hg' : decide ((got : Int) < (kept.length : Int)) = false := by simp; omega
          have E1 := Go.Lib.hid e1
          clear e1
          go_wp2_with (first | (go_at_call 18; refine (recv_to HS.out 1 rfl HI.out.hold.ok (m := ⟨#[]⟩) (code := 2) (q2 := q) (by rw [E1.out]) (by rw [E1.out]) (by rw [E1.out])).mono ?_; rintro e w81_ ⟨rfl, HSn⟩; replace HS : Hid (St [SL.row Kd.string 9 (.slice A9 (kept).length c9) (kept), que g9 q] w w81_) := Go.Lib.hid HSn; clear HSn) | (go_at_call 9; refine (awake_st HS.out).mono ?_; rintro e w82_ ⟨rfl, HSn⟩; replace HS : Hid (St [SL.row Kd.string 9 (.slice A9 (kept).length c9) (kept), que g9 q] w w82_) := Go.Lib.hid HSn; clear HSn))
          go_ret
          exact ⟨rfl, HS.out.below⟩
end Go.Proofs.Ytolokohgphdngaa.Que
