/- A table's owner of a tick; a cursor's step. -/
import Derived.Test.YtnpjbdaaoknkbaaYTabB
import Derived.IntWalk
namespace Go.Proofs.Ytnpjbdaaoknkbaa.Tab
open Go.RowKit Go.Proofs.YtnpjbdaaoknkbaaW.PrintWords Go.Proofs.YtnpjbdaaoknkbaaW.PrintLast Go.Proofs.YtnpjbdaaoknkbaaW.PrintMore Go.Proofs.Ytnpjbdaaoknkbaa.Mine Go.Proofs.Ytnpjbdaaoknkbaa.PTableFrames
open Go.Proofs.Ytnpjbdaaoknkbaa.Sl (SL Stp Chg St No wpc_seal wpc_round sealed)
set_option linter.unusedVariables false
set_option linter.unusedSimpArgs false
attribute [local go_sem] max2_int min2_int max_two min_two max_three min_three max_four min_four
variable {l : List SL} {w0 w : World} {gt gc : Nat} {id fr : Int} {rs : List S44}
theorem there_yes (h : St l w0 w) (R : InT l gt id fr rs) (t : Int) (h0 : 0 ≤ t) (h1 : t < fr) : Calls Try.prog 62 #[.pointer (some ⟨gt, 0, none⟩), .int .i64 t] w fun e w' => e = .returned (.bool true) ∧ w = w' := by
 obtain ⟨A, c, y3, y4, y5, hC⟩ := R.sees h
 have d0 : decide (0 ≤ t) = true := by simpa using h0
 have d1 : decide (t < fr) = true := by simpa using h1
 clear h hC h0 h1
 go_enter Try.func62, Try.ntmps62
 go_wp2_with fail
 go_ret
 exact ⟨rfl, rfl⟩
/-- The same, its slice said. -/
structure InA (l : List SL) (gt : Nat) (id fr : Int) (rs : List S44) (A : Option Addr) (c : Nat) : Prop where
 ex : ∃ (n1 n2 : Nat), l[n1]? = some (SL.blk gt 97 #[.int .i64 id, .int .i64 fr, .slice A rs.length c]) ∧ l[n2]? = some (SL.row k44 44 (.slice A rs.length c) rs)
theorem InT.a (R : InT l gt id fr rs) : ∃ A c, InA l gt id fr rs A c := by
 obtain ⟨n1, n2, A, c, h1, h2⟩ := R.ex
 exact ⟨A, c, n1, n2, h1, h2⟩
theorem InA.t {A : Option Addr} {c : Nat} (R : InA l gt id fr rs A c) : InT l gt id fr rs := by
 obtain ⟨n1, n2, h1, h2⟩ := R.ex
 exact ⟨n1, n2, A, c, h1, h2⟩
theorem InA.cons {A : Option Addr} {c : Nat} (R : InA l gt id fr rs A c) (X : SL) : InA (X :: l) gt id fr rs A c := by
 obtain ⟨n1, n2, h1, h2⟩ := R.ex
 exact ⟨n1 + 1, n2 + 1, by simpa using h1, by simpa using h2⟩
/-- All that a reader of a run sees. -/
def Seen (w' : World) (gt : Nat) (id fr : Int) (rs : List S44) (ad : Addr) (c j : Nat) : Prop := (w'.cell? ⟨gt, 0, none⟩ = some (.int .i64 id) ∧ w'.cell? ⟨gt, 1, none⟩ = some (.int .i64 fr) ∧ w'.cell? ⟨gt, 2, none⟩ = some (.slice (some ad) rs.length c)) ∧ w'.cell? (ad.add (j * 3)) = some (.int .i64 (rd_T44 rs (j : Int)).f0) ∧ w'.cell? ⟨(ad.add (j * 3)).block, (ad.add (j * 3)).off + 1, none⟩ = some (.int .i64 (rd_T44 rs (j : Int)).f1) ∧ w'.cell? ⟨(ad.add (j * 3)).block, (ad.add (j * 3)).off + 2, none⟩ = some (.int .i64 (rd_T44 rs (j : Int)).f2)
theorem InA.sees {ad : Addr} {c : Nat} (R : InA l gt id fr rs (some ad) c) (h : St l w0 w) (j : Nat) (hj : j < rs.length) : Seen w gt id fr rs ad c j := by
 obtain ⟨n1, n2, h1, h2⟩ := R.ex
 have a := h.c3 n1 _ _ _ _ _ h1
 obtain ⟨A', c', hv, _, hC⟩ := h.rowC n2 h2
 injection hv with q1 _ q2
 subst q1
 obtain ⟨ad', he, b⟩ := at_run hC j hj
 injection he with he
 subst he
 exact ⟨a, b⟩
theorem InA.adr {A : Option Addr} {c : Nat} (R : InA l gt id fr rs A c) (h : St l w0 w) (hp : 0 < rs.length) : ∃ ad, A = some ad := by
 obtain ⟨n1, n2, h1, h2⟩ := R.ex
 obtain ⟨A', c', hv, _, hC⟩ := h.rowC n2 h2
 injection hv with q1 _ q2
 subst q1
 obtain ⟨ad, e, _⟩ := at_run hC 0 hp
 exact ⟨ad, e⟩
set_option maxHeartbeats 3200000 in
set_option maxRecDepth 100000 in
theorem tab_owner (h : St l w0 w) (R : InT l gt id fr rs) {own : Int → Int} {at_ : Int} (hr : Runs own rs at_) (t : Int) (j : Nat) (hi : In rs t j) (hlen : rs.length ≤ 100000) (h0 : 0 ≤ t) (h1 : t < fr) : Calls Try.prog 16 #[.pointer (some ⟨gt, 0, none⟩), .int .i64 t] w fun e w' => e = .returned (.int .i64 (rd_T44 rs (j : Int)).f0) ∧ St l w0 w' := by
 have hj := hi.lt
 obtain ⟨A, c, RA⟩ := R.a
 obtain ⟨ad, rfl⟩ := RA.adr h (by omega)
 have HIN := Go.Lib.hid hi
 have H0 := Go.Lib.hid (And.intro h0 h1)
 have HS := Go.Lib.hid h.drew
 clear hi h0 h1
 have p0 : (0 ≤ (j : Int)) = True := eq_true (by omega)
 have p1 : ((j : Int) < ((rs.length : Nat) : Int)) = True := eq_true (by omega)
 go_enter Try.func16, Try.ntmps16
 go_upto_region 3 with (go_at_call 62; refine (there_yes h RA.t t H0.out.1 H0.out.2).mono ?_; rintro e w' ⟨rfl, rfl⟩)
 clear h
 refine start_ (n := 11) (S := fun w' => (w'.cell? ⟨gt, 0, none⟩ = some (.int .i64 id) ∧ w'.cell? ⟨gt, 1, none⟩ = some (.int .i64 fr) ∧ w'.cell? ⟨gt, 2, none⟩ = some (.slice (some ad) rs.length c)) ∧ w'.cell? (ad.add (j * 3)) = some (.int .i64 (rd_T44 rs (j : Int)).f0) ∧ w'.cell? ⟨(ad.add (j * 3)).block, (ad.add (j * 3)).off + 1, none⟩ = some (.int .i64 (rd_T44 rs (j : Int)).f1) ∧ w'.cell? ⟨(ad.add (j * 3)).block, (ad.add (j * 3)).off + 2, none⟩ = some (.int .i64 (rd_T44 rs (j : Int)).f2)) (ds := []) #[false, false, false, false, false, false, false, false, false, false, false] (by kernel_rfl) rfl rfl (RA.sees HS.out j hj) (fun hHeld => ?_)
 generalize w.drew = W_ at *
 refine pure_ (i := 0) (N := some 9) (v := ?_) (a' := ?_) #[true, false, false, false, false, false, false, false, false, false, false] rfl rfl (by kernel_rfl) (fun _ _ _ h => h) (Or.inl ⟨by rfl, ?_⟩) ?_ ?_
 rotate_left
 ·intro w'
  go_simp
  with_reducible rfl
 rotate_left
 ·simp only [Act.put, List.setIfInBounds_toArray, List.set_cons_zero, List.set_cons_succ, i64_w, i32_w]
  rfl
 refine pure_ (i := 1) (N := some 10) (v := ?_) (a' := ?_) #[true, true, false, false, false, false, false, false, false, false, false] rfl rfl (by kernel_rfl) (fun _ _ _ h => h) (Or.inl ⟨by rfl, ?_⟩) ?_ ?_
 rotate_left
 ·intro w'
  go_simp
  with_reducible rfl
 rotate_left
 ·simp only [Act.put, List.setIfInBounds_toArray, List.set_cons_zero, List.set_cons_succ, i64_w, i32_w]
  rfl
 refine pure_ (i := 2) (N := some 11) (v := ?_) (a' := ?_) #[true, true, true, false, false, false, false, false, false, false, false] rfl rfl (by kernel_rfl) (fun _ _ _ h => h) (Or.inl ⟨by rfl, ?_⟩) ?_ ?_
 rotate_left
 ·intro w'
  go_simp
  with_reducible rfl
 rotate_left
 ·simp only [Act.put, List.setIfInBounds_toArray, List.set_cons_zero, List.set_cons_succ, i64_w, i32_w]
  rfl
 refine pure_ (i := 4) (N := some 13) (v := ?_) (a' := ?_) #[true, true, true, false, true, false, false, false, false, false, false] rfl rfl (by kernel_rfl) (fun _ _ _ h => h) (Or.inl ⟨by rfl, ?_⟩) ?_ ?_
 rotate_left
 ·intro w'
  go_simp
  with_reducible rfl
 rotate_left
 ·simp only [Act.put, List.setIfInBounds_toArray, List.set_cons_zero, List.set_cons_succ, i64_w, i32_w]
  rfl
 refine pure_ (i := 5) (N := some 14) (v := ?_) (a' := ?_) #[true, true, true, false, true, true, false, false, false, false, false] rfl rfl (by kernel_rfl) (fun _ _ _ h => h) (Or.inl ⟨by rfl, ?_⟩) ?_ ?_
 rotate_left
 ·intro w'
  go_simp
  with_reducible rfl
 rotate_left
 ·simp only [Act.put, List.setIfInBounds_toArray, List.set_cons_zero, List.set_cons_succ, i64_w, i32_w]
  rfl
 refine take_ (i := 3) (N := some 12) (v := ?_) (a' := ?_) #[true, true, true, true, true, true, false, false, false, false, false] rfl rfl (by kernel_rfl) (fun _ _ _ h => h) (Or.inl ⟨by rfl, ?_⟩) hHeld ?_ ?_
 rotate_left
 ·rintro w' ⟨⟨s3, s4, s5⟩, s6, s7, s8⟩
  go_simp
  with_reducible rfl
 rotate_left
 ·simp only [Act.put, List.setIfInBounds_toArray, List.set_cons_zero, List.set_cons_succ, i64_w, i32_w]
  rfl
 refine one_ (i := 6) (N := some 15) #[true, true, true, true, true, true, true, false, false, false, false] rfl rfl (by kernel_rfl) (by decide) (fun K hK => ?_)
 refine goes_ Try.func63 (by kernel_rfl) rfl #[.pointer (some ⟨gt, 0, none⟩), .int .i64 t] (by rfl) rfl rfl (by (try simp only [List.map_toArray, List.map_cons, List.map_nil]); first | done | rfl) ?_
 refine (run_st HS.out RA.t hr t j HIN.out hlen).mono ?_
 rintro e w9 ⟨rfl, hSm⟩
 have HSm := Go.Lib.hid hSm
 clear hSm
 refine ⟨_, rfl, ?_⟩
 refine hK.out _ _ (RA.sees HSm.out j hj) (fun hHeld => ?_)
 clear hK K
 refine norm_ (a' := ?_) ?_ ?_
 rotate_left
 ·show Act.put _ (some 15) _ = _
  simp only [Act.put, List.setIfInBounds_toArray, List.set_cons_zero, List.set_cons_succ, i64_w, i32_w]
  rfl
 refine pure_ (i := 7) (N := some 16) (v := ?_) (a' := ?_) #[true, true, true, true, true, true, true, true, false, false, false] rfl rfl (by kernel_rfl) (fun _ _ _ h => h) (Or.inl ⟨by rfl, ?_⟩) ?_ ?_
 rotate_left
 ·intro w'
  go_simp
  with_reducible rfl
 rotate_left
 ·simp only [Act.put, List.setIfInBounds_toArray, List.set_cons_zero, List.set_cons_succ, i64_w, i32_w]
  rfl
 refine pure_ (i := 8) (N := some 17) (v := ?_) (a' := ?_) #[true, true, true, true, true, true, true, true, true, false, false] rfl rfl (by kernel_rfl) (fun _ _ _ h => h) (Or.inl ⟨by rfl, ?_⟩) ?_ ?_
 rotate_left
 ·intro w'
  go_simp
  with_reducible rfl
 rotate_left
 ·simp only [Act.put, List.setIfInBounds_toArray, List.set_cons_zero, List.set_cons_succ, i64_w, i32_w]
  rfl
 refine take_ (i := 9) (N := some 18) (v := ?_) (a' := ?_) #[true, true, true, true, true, true, true, true, true, true, false] rfl rfl (by kernel_rfl) (fun _ _ _ h => h) (Or.inl ⟨by rfl, ?_⟩) hHeld ?_ ?_
 rotate_left
 ·rintro w' ⟨⟨s3, s4, s5⟩, s6, s7, s8⟩
  go_simp
  with_reducible rfl
 rotate_left
 ·simp only [Act.put, List.setIfInBounds_toArray, List.set_cons_zero, List.set_cons_succ, i64_w, i32_w]
  rfl
 refine pure_ (i := 10) (N := some 4) (v := ?_) (a' := ?_) #[true, true, true, true, true, true, true, true, true, true, true] rfl rfl (by kernel_rfl) (fun _ _ _ h => h) (Or.inl ⟨by rfl, ?_⟩) ?_ ?_
 rotate_left
 ·intro w'
  go_simp
  with_reducible rfl
 rotate_left
 ·simp only [Act.put, List.setIfInBounds_toArray, List.set_cons_zero, List.set_cons_succ, i64_w, i32_w]
  rfl
 refine done_ (by kernel_rfl) ?_
 go_wp2_with fail
 go_ret
 exact ⟨rfl, HSm.out⟩
/-- Where a cursor stands behind a step. -/
def nextT (fr t : Int) : Int := if t + 1 < fr then t + 1 else 0
def nextJ (rs : List S44) (fr t : Int) (j : Nat) : Nat := if t + 1 < fr then (if t + 1 < (rd_T44 rs (j : Int)).f1 + (rd_T44 rs (j : Int)).f2 then j else j + 1) else 0
set_option maxHeartbeats 6400000 in
set_option maxRecDepth 100000 in
theorem step_0 (h : St l w0 w) (n : Nat) (t : Int) (j : Nat) (e : l[n]? = some (SL.blk gc 100 #[.pointer (some ⟨gt, 0, none⟩), .int .i64 t, .int .i64 (j : Nat)])) (ad : Addr) (c : Nat) (RX : ∀ X, InA (l.set n X) gt id fr rs (some ad) c) (hj : j < rs.length) (hlen : rs.length ≤ 100000) (ht0 : 0 ≤ t) (ht1 : t ≤ 4000000) (hb : 0 ≤ (rd_T44 rs (j : Int)).f1 ∧ (rd_T44 rs (j : Int)).f1 + (rd_T44 rs (j : Int)).f2 ≤ 4000000) (hb2 : 0 ≤ (rd_T44 rs (j : Int)).f2) (c1 : ¬ ((rd_T44 rs (j : Int)).f1 + (rd_T44 rs (j : Int)).f2 ≤ t + 1)) (c2 : (t + 1 < fr)) :
  Calls Try.prog 18 #[.pointer (some ⟨gc, 0, none⟩)] w fun e w' => e = .returned (.bool true) ∧ St (l.set n (SL.blk gc 100 #[.pointer (some ⟨gt, 0, none⟩), .int .i64 (t + 1), .int .i64 ((j : Nat) : Int)])) w0 w' := by
 have hlt : n < l.length := (List.getElem?_eq_some_iff.1 e).1
 have HE := Go.Lib.hid e
 have HS := Go.Lib.hid h
 have HRX := Go.Lib.hid RX
 have HB := Go.Lib.hid (And.intro hb hb2)
 obtain ⟨y0, y1, y2⟩ := h.c3 n _ _ _ _ _ e
 clear h e RX
 have p0 : (0 ≤ (j : Int)) = True := eq_true (by omega)
 have p1 : ((j : Int) < ((rs.length : Nat) : Int)) = True := eq_true (by omega)
 have q0 := HB.out.1.1
 have q1 := HB.out.1.2
 have q2 := HB.out.2
 have d1 : decide ((rd_T44 rs (j : Int)).f1 + (rd_T44 rs (j : Int)).f2 ≤ t + 1) = false := by simpa using c1
 have d2 : decide (t + 1 < fr) = true := by simpa using c2
 clear c1 c2 hb hb2
 go_enter Try.func18, Try.ntmps18
 go_upto_region 2 with ((with_reducible refine gate_store (p := 10) rfl ?_); refine Sl.store_st HS.out n gc 100 _ HE.out 1 (.int .i64 (t + 1)) (by rfl) (by rfl) ?hr ?_; (case hr => have f_ := HS.out.free n _ _ _ HE.out 1; first | (go_simp; done) | (go_simp; rfl)); intro w1_ HSn; have HSo : St (l.set n (SL.blk gc 100 #[.pointer (some ⟨gt, 0, none⟩), .int .i64 (t + 1), .int .i64 ((j : Nat) : Int)])) w0 w1_ := (by have h9 := HSn; (try rw [List.set_set] at h9); exact h9); have HEn : (l.set n (SL.blk gc 100 #[.pointer (some ⟨gt, 0, none⟩), .int .i64 (t + 1), .int .i64 ((j : Nat) : Int)]))[n]? = some (SL.blk gc 100 #[.pointer (some ⟨gt, 0, none⟩), .int .i64 (t + 1), .int .i64 ((j : Nat) : Int)]) := List.getElem?_set_self hlt; replace HS := Go.Lib.hid HSo; replace HE := Go.Lib.hid HEn; clear HSn HSo HEn y0 y1 y2; obtain ⟨y0, y1, y2⟩ := HS.out.c3 n _ _ _ _ _ HE.out)
 clear y0 y1 y2
 replace HS := Go.Lib.hid HS.out.drew
 refine start_ (n := 15) (S := fun w' => (w'.cell? ⟨gc, 0, none⟩ = some (.pointer (some ⟨gt, 0, none⟩)) ∧ w'.cell? ⟨gc, 1, none⟩ = some (.int .i64 (t + 1)) ∧ w'.cell? ⟨gc, 2, none⟩ = some (.int .i64 ((j : Nat) : Int))) ∧ (w'.cell? ⟨gt, 0, none⟩ = some (.int .i64 id) ∧ w'.cell? ⟨gt, 1, none⟩ = some (.int .i64 fr) ∧ w'.cell? ⟨gt, 2, none⟩ = some (.slice (some ad) rs.length c)) ∧ w'.cell? (ad.add (j * 3)) = some (.int .i64 (rd_T44 rs (j : Int)).f0) ∧ w'.cell? ⟨(ad.add (j * 3)).block, (ad.add (j * 3)).off + 1, none⟩ = some (.int .i64 (rd_T44 rs (j : Int)).f1) ∧ w'.cell? ⟨(ad.add (j * 3)).block, (ad.add (j * 3)).off + 2, none⟩ = some (.int .i64 (rd_T44 rs (j : Int)).f2)) (ds := [14]) #[false, false, false, false, false, false, false, false, false, false, false, false, false, false, false] (by kernel_rfl) rfl rfl ⟨HS.out.c3 n _ _ _ _ _ HE.out, (HRX.out _).sees HS.out j hj⟩ (fun hHeld => ?_)
 generalize w1_.drew = W_ at *
 refine pure_ (i := 0) (N := some 11) (v := ?_) (a' := ?_) #[true, false, false, false, false, false, false, false, false, false, false, false, false, false, false] rfl rfl (by kernel_rfl) (fun _ _ _ h => h) (Or.inl ⟨by rfl, ?_⟩) ?_ ?_
 rotate_left
 ·intro w'
  go_simp
  with_reducible rfl
 rotate_left
 ·simp only [Act.put, List.setIfInBounds_toArray, List.set_cons_zero, List.set_cons_succ, i64_w, i32_w]
  rfl
 refine pure_ (i := 1) (N := some 12) (v := ?_) (a' := ?_) #[true, true, false, false, false, false, false, false, false, false, false, false, false, false, false] rfl rfl (by kernel_rfl) (fun _ _ _ h => h) (Or.inl ⟨by rfl, ?_⟩) ?_ ?_
 rotate_left
 ·intro w'
  go_simp
  with_reducible rfl
 rotate_left
 ·simp only [Act.put, List.setIfInBounds_toArray, List.set_cons_zero, List.set_cons_succ, i64_w, i32_w]
  rfl
 refine pure_ (i := 2) (N := some 13) (v := ?_) (a' := ?_) #[true, true, true, false, false, false, false, false, false, false, false, false, false, false, false] rfl rfl (by kernel_rfl) (fun _ _ _ h => h) (Or.inl ⟨by rfl, ?_⟩) ?_ ?_
 rotate_left
 ·intro w'
  go_simp
  with_reducible rfl
 rotate_left
 ·simp only [Act.put, List.setIfInBounds_toArray, List.set_cons_zero, List.set_cons_succ, i64_w, i32_w]
  rfl
 refine pure_ (i := 7) (N := some 18) (v := ?_) (a' := ?_) #[true, true, true, false, false, false, false, true, false, false, false, false, false, false, false] rfl rfl (by kernel_rfl) (fun _ _ _ h => h) (Or.inl ⟨by rfl, ?_⟩) ?_ ?_
 rotate_left
 ·intro w'
  go_simp
  with_reducible rfl
 rotate_left
 ·simp only [Act.put, List.setIfInBounds_toArray, List.set_cons_zero, List.set_cons_succ, i64_w, i32_w]
  rfl
 refine pure_ (i := 8) (N := some 19) (v := ?_) (a' := ?_) #[true, true, true, false, false, false, false, true, true, false, false, false, false, false, false] rfl rfl (by kernel_rfl) (fun _ _ _ h => h) (Or.inl ⟨by rfl, ?_⟩) ?_ ?_
 rotate_left
 ·intro w'
  go_simp
  with_reducible rfl
 rotate_left
 ·simp only [Act.put, List.setIfInBounds_toArray, List.set_cons_zero, List.set_cons_succ, i64_w, i32_w]
  rfl
 refine pure_ (i := 9) (N := some 20) (v := ?_) (a' := ?_) #[true, true, true, false, false, false, false, true, true, true, false, false, false, false, false] rfl rfl (by kernel_rfl) (fun _ _ _ h => h) (Or.inl ⟨by rfl, ?_⟩) ?_ ?_
 rotate_left
 ·intro w'
  go_simp
  with_reducible rfl
 rotate_left
 ·simp only [Act.put, List.setIfInBounds_toArray, List.set_cons_zero, List.set_cons_succ, i64_w, i32_w]
  rfl
 refine take_ (i := 3) (N := some 14) (v := ?_) (a' := ?_) #[true, true, true, true, false, false, false, true, true, true, false, false, false, false, false] rfl rfl (by kernel_rfl) (fun _ _ _ h => h) (Or.inl ⟨by rfl, ?_⟩) hHeld ?_ ?_
 rotate_left
 ·rintro w' ⟨⟨s0, s1, s2⟩, ⟨s3, s4, s5⟩, s6, s7, s8⟩
  go_simp
  with_reducible rfl
 rotate_left
 ·simp only [Act.put, List.setIfInBounds_toArray, List.set_cons_zero, List.set_cons_succ, i64_w, i32_w]
  rfl
 refine pure_ (i := 4) (N := some 15) (v := ?_) (a' := ?_) #[true, true, true, true, true, false, false, true, true, true, false, false, false, false, false] rfl rfl (by kernel_rfl) (fun _ _ _ h => h) (Or.inl ⟨by rfl, ?_⟩) ?_ ?_
 rotate_left
 ·intro w'
  go_simp
  with_reducible rfl
 rotate_left
 ·simp only [Act.put, List.setIfInBounds_toArray, List.set_cons_zero, List.set_cons_succ, i64_w, i32_w]
  rfl
 refine pure_ (i := 5) (N := some 16) (v := ?_) (a' := ?_) #[true, true, true, true, true, true, false, true, true, true, false, false, false, false, false] rfl rfl (by kernel_rfl) (fun _ _ _ h => h) (Or.inl ⟨by rfl, ?_⟩) ?_ ?_
 rotate_left
 ·intro w'
  go_simp
  with_reducible rfl
 rotate_left
 ·simp only [Act.put, List.setIfInBounds_toArray, List.set_cons_zero, List.set_cons_succ, i64_w, i32_w]
  rfl
 refine take_ (i := 6) (N := some 17) (v := ?_) (a' := ?_) #[true, true, true, true, true, true, true, true, true, true, false, false, false, false, false] rfl rfl (by kernel_rfl) (fun _ _ _ h => h) (Or.inl ⟨by rfl, ?_⟩) hHeld ?_ ?_
 rotate_left
 ·rintro w' ⟨⟨s0, s1, s2⟩, ⟨s3, s4, s5⟩, s6, s7, s8⟩
  go_simp
  with_reducible rfl
 rotate_left
 ·simp only [Act.put, List.setIfInBounds_toArray, List.set_cons_zero, List.set_cons_succ, i64_w, i32_w]
  rfl
 refine take_ (i := 10) (N := some 21) (v := ?_) (a' := ?_) #[true, true, true, true, true, true, true, true, true, true, true, false, false, false, false] rfl rfl (by kernel_rfl) (fun _ _ _ h => h) (Or.inl ⟨by rfl, ?_⟩) hHeld ?_ ?_
 rotate_left
 ·rintro w' ⟨⟨s0, s1, s2⟩, ⟨s3, s4, s5⟩, s6, s7, s8⟩
  go_simp
  with_reducible rfl
 rotate_left
 ·simp only [Act.put, List.setIfInBounds_toArray, List.set_cons_zero, List.set_cons_succ, i64_w, i32_w]
  rfl
 refine pure_ (i := 11) (N := some 22) (v := ?_) (a' := ?_) #[true, true, true, true, true, true, true, true, true, true, true, true, false, false, false] rfl rfl (by kernel_rfl) (fun _ _ _ h => h) (Or.inl ⟨by rfl, ?_⟩) ?_ ?_
 rotate_left
 ·intro w'
  go_simp
  with_reducible rfl
 rotate_left
 ·simp only [Act.put, List.setIfInBounds_toArray, List.set_cons_zero, List.set_cons_succ, i64_w, i32_w]
  rfl
 refine take_ (i := 12) (N := some 23) (v := ?_) (a' := ?_) #[true, true, true, true, true, true, true, true, true, true, true, true, true, false, false] rfl rfl (by kernel_rfl) (fun _ _ _ h => h) (Or.inl ⟨by rfl, ?_⟩) hHeld ?_ ?_
 rotate_left
 ·rintro w' ⟨⟨s0, s1, s2⟩, ⟨s3, s4, s5⟩, s6, s7, s8⟩
  go_simp
  with_reducible rfl
 rotate_left
 ·simp only [Act.put, List.setIfInBounds_toArray, List.set_cons_zero, List.set_cons_succ, i64_w, i32_w]
  rfl
 refine one_ (i := 13) (N := some 3) #[true, true, true, true, true, true, true, true, true, true, true, true, true, true, false] rfl rfl (by kernel_rfl) (by decide) (fun K hK => ?_)
 refine Sl.box_stp HS.out (by rfl) (cs := #[.int .i64 0, .int .i64 0, .int .i64 0]) (t := 44) (by first | (go_simp; done) | (go_simp; rfl)) ?_
 intro g3 w11_ HSn hB_
 clear hB_
 have HSb := Go.Lib.hid HSn
 clear HSn
 refine hK.out _ _ ⟨HSb.out.c3 (n + 1) _ _ _ _ _ (by simpa using HE.out), ((HRX.out _).cons _).sees HSb.out j hj⟩ (fun hHeld => ?_)
 clear hK K
 refine norm_ (a' := ?_) ?_ ?_
 rotate_left
 ·show Act.put _ (some 3) _ = _
  simp only [Act.put, List.setIfInBounds_toArray, List.set_cons_zero, List.set_cons_succ, i64_w, i32_w]
  rfl
 refine last_ (i := 14) (N := none) #[true, true, true, true, true, true, true, true, true, true, true, true, true, true, true] rfl rfl (by kernel_rfl) (by decide) (fun K hK => ?_)
 have f_ := HSb.out.f3 0 _ _ _ _ _ rfl
 obtain ⟨f0_, f1_, f2_⟩ := f_
 obtain ⟨k0_, k1_, k2_⟩ := HSb.out.c3 0 _ _ _ _ _ rfl
 refine Sl.storeAll_stp HSb.out 0 g3 44 _ rfl [.int .i64 (rd_T44 rs (j : Int)).f0, .int .i64 (rd_T44 rs (j : Int)).f1, .int .i64 (rd_T44 rs (j : Int)).f2] rfl (by rfl) rfl (by first | (go_simp; done) | (go_simp; rfl)) ?_
 intro w12_ HSm
 clear f0_ f1_ f2_ k0_ k1_ k2_
 refine hK.out _ _ ?_
 clear hK K
 refine done_ (by kernel_rfl) ?_
 have HSk := Go.Lib.hid HSm
 clear HSm
 have e1_ : wrap64 ((rd_T44 rs (j : Int)).f1 + (rd_T44 rs (j : Int)).f2) = (rd_T44 rs (j : Int)).f1 + (rd_T44 rs (j : Int)).f2 := by unfold wrap64; omega
 have e0_ : IntKind.i64.wrap ((rd_T44 rs (j : Int)).f1 + (rd_T44 rs (j : Int)).f2) = (rd_T44 rs (j : Int)).f1 + (rd_T44 rs (j : Int)).f2 := IntWalk.i64_in _ (by omega)
 go_upto_region 3 with (fail)
 replace HSk := Go.Lib.hid HSk.out.drew
 refine start_ (n := 10) (S := fun w' => (w'.cell? ⟨gc, 0, none⟩ = some (.pointer (some ⟨gt, 0, none⟩)) ∧ w'.cell? ⟨gc, 1, none⟩ = some (.int .i64 (t + 1)) ∧ w'.cell? ⟨gc, 2, none⟩ = some (.int .i64 ((j : Nat) : Int))) ∧ (w'.cell? ⟨g3, 0, none⟩ = some (.int .i64 (rd_T44 rs (j : Int)).f0) ∧ w'.cell? ⟨g3, 1, none⟩ = some (.int .i64 (rd_T44 rs (j : Int)).f1) ∧ w'.cell? ⟨g3, 2, none⟩ = some (.int .i64 (rd_T44 rs (j : Int)).f2))) (ds := []) #[false, false, false, false, false, false, false, false, false, false] (by kernel_rfl) rfl rfl ⟨HSk.out.c3 (n + 1) _ _ _ _ _ (by simpa using HE.out), HSk.out.c3 0 _ _ _ _ _ rfl⟩ (fun hHeld => ?_)
 generalize w12_.drew = W3_ at *
 refine pure_ (i := 0) (N := some 24) (v := ?_) (a' := ?_) #[true, false, false, false, false, false, false, false, false, false] rfl rfl (by kernel_rfl) (fun _ _ _ h => h) (Or.inl ⟨by rfl, ?_⟩) ?_ ?_
 rotate_left
 ·intro w'
  go_simp
  with_reducible rfl
 rotate_left
 ·simp only [Act.put, List.setIfInBounds_toArray, List.set_cons_zero, List.set_cons_succ, i64_w, i32_w]
  rfl
 refine pure_ (i := 1) (N := some 25) (v := ?_) (a' := ?_) #[true, true, false, false, false, false, false, false, false, false] rfl rfl (by kernel_rfl) (fun _ _ _ h => h) (Or.inl ⟨by rfl, ?_⟩) ?_ ?_
 rotate_left
 ·intro w'
  go_simp
  with_reducible rfl
 rotate_left
 ·simp only [Act.put, List.setIfInBounds_toArray, List.set_cons_zero, List.set_cons_succ, i64_w, i32_w]
  rfl
 refine pure_ (i := 2) (N := some 26) (v := ?_) (a' := ?_) #[true, true, true, false, false, false, false, false, false, false] rfl rfl (by kernel_rfl) (fun _ _ _ h => h) (Or.inl ⟨by rfl, ?_⟩) ?_ ?_
 rotate_left
 ·intro w'
  go_simp
  with_reducible rfl
 rotate_left
 ·simp only [Act.put, List.setIfInBounds_toArray, List.set_cons_zero, List.set_cons_succ, i64_w, i32_w]
  rfl
 refine pure_ (i := 4) (N := some 28) (v := ?_) (a' := ?_) #[true, true, true, false, true, false, false, false, false, false] rfl rfl (by kernel_rfl) (fun _ _ _ h => h) (Or.inl ⟨by rfl, ?_⟩) ?_ ?_
 rotate_left
 ·intro w'
  go_simp
  with_reducible rfl
 rotate_left
 ·simp only [Act.put, List.setIfInBounds_toArray, List.set_cons_zero, List.set_cons_succ, i64_w, i32_w]
  rfl
 refine pure_ (i := 6) (N := some 30) (v := ?_) (a' := ?_) #[true, true, true, false, true, false, true, false, false, false] rfl rfl (by kernel_rfl) (fun _ _ _ h => h) (Or.inl ⟨by rfl, ?_⟩) ?_ ?_
 rotate_left
 ·intro w'
  go_simp
  with_reducible rfl
 rotate_left
 ·simp only [Act.put, List.setIfInBounds_toArray, List.set_cons_zero, List.set_cons_succ, i64_w, i32_w]
  rfl
 refine take_ (i := 3) (N := some 27) (v := ?_) (a' := ?_) #[true, true, true, true, true, false, true, false, false, false] rfl rfl (by kernel_rfl) (fun _ _ _ h => h) (Or.inl ⟨by rfl, ?_⟩) hHeld ?_ ?_
 rotate_left
 ·rintro w' ⟨⟨s0, s1, s2⟩, s3, s4, s5⟩
  go_simp
  with_reducible rfl
 rotate_left
 ·simp only [Act.put, List.setIfInBounds_toArray, List.set_cons_zero, List.set_cons_succ, i64_w, i32_w]
  rfl
 refine take_ (i := 5) (N := some 29) (v := ?_) (a' := ?_) #[true, true, true, true, true, true, true, false, false, false] rfl rfl (by kernel_rfl) (fun _ _ _ h => h) (Or.inl ⟨by rfl, ?_⟩) hHeld ?_ ?_
 rotate_left
 ·rintro w' ⟨⟨s0, s1, s2⟩, s3, s4, s5⟩
  go_simp
  with_reducible rfl
 rotate_left
 ·simp only [Act.put, List.setIfInBounds_toArray, List.set_cons_zero, List.set_cons_succ, i64_w, i32_w]
  rfl
 refine take_ (i := 7) (N := some 31) (v := ?_) (a' := ?_) #[true, true, true, true, true, true, true, true, false, false] rfl rfl (by kernel_rfl) (fun _ _ _ h => h) (Or.inl ⟨by rfl, ?_⟩) hHeld ?_ ?_
 rotate_left
 ·rintro w' ⟨⟨s0, s1, s2⟩, s3, s4, s5⟩
  go_simp
  with_reducible rfl
 rotate_left
 ·simp only [Act.put, List.setIfInBounds_toArray, List.set_cons_zero, List.set_cons_succ, i64_w, i32_w]
  rfl
 refine pure_ (i := 8) (N := some 32) (v := ?_) (a' := ?_) #[true, true, true, true, true, true, true, true, true, false] rfl rfl (by kernel_rfl) (fun _ _ _ h => h) (Or.inl ⟨by rfl, ?_⟩) ?_ ?_
 rotate_left
 ·intro w'
  go_simp
  with_reducible rfl
 rotate_left
 ·simp only [Act.put, List.setIfInBounds_toArray, List.set_cons_zero, List.set_cons_succ, i64_w, i32_w]
  rfl
 refine pure_ (i := 9) (N := some 33) (v := ?_) (a' := ?_) #[true, true, true, true, true, true, true, true, true, true] rfl rfl (by kernel_rfl) (fun _ _ _ h => h) (Or.inl ⟨by rfl, ?_⟩) ?_ ?_
 rotate_left
 ·intro w'
  go_simp
  with_reducible rfl
 rotate_left
 ·simp only [Act.put, List.setIfInBounds_toArray, List.set_cons_zero, List.set_cons_succ, i64_w, i32_w]
  rfl
 refine done_ (by kernel_rfl) ?_
 replace HS := Go.Lib.hid HSk.out.drop
 clear HSk e0_ e1_
 obtain ⟨y0, y1, y2⟩ := HS.out.c3 n _ _ _ _ _ HE.out
 go_upto_region 5 with (fail)
 clear y0 y1 y2
 replace HS := Go.Lib.hid HS.out.drew
 refine start_ (n := 12) (S := fun w' => (w'.cell? ⟨gc, 0, none⟩ = some (.pointer (some ⟨gt, 0, none⟩)) ∧ w'.cell? ⟨gc, 1, none⟩ = some (.int .i64 (t + 1)) ∧ w'.cell? ⟨gc, 2, none⟩ = some (.int .i64 ((j : Nat) : Int))) ∧ (w'.cell? ⟨gt, 0, none⟩ = some (.int .i64 id) ∧ w'.cell? ⟨gt, 1, none⟩ = some (.int .i64 fr) ∧ w'.cell? ⟨gt, 2, none⟩ = some (.slice (some ad) rs.length c)) ∧ w'.cell? (ad.add (j * 3)) = some (.int .i64 (rd_T44 rs (j : Int)).f0) ∧ w'.cell? ⟨(ad.add (j * 3)).block, (ad.add (j * 3)).off + 1, none⟩ = some (.int .i64 (rd_T44 rs (j : Int)).f1) ∧ w'.cell? ⟨(ad.add (j * 3)).block, (ad.add (j * 3)).off + 2, none⟩ = some (.int .i64 (rd_T44 rs (j : Int)).f2)) (ds := []) #[false, false, false, false, false, false, false, false, false, false, false, false] (by kernel_rfl) rfl rfl ⟨HS.out.c3 n _ _ _ _ _ HE.out, (HRX.out _).sees HS.out j hj⟩ (fun hHeld => ?_)
 generalize W3_.drew = W5_ at *
 refine pure_ (i := 0) (N := some 41) (v := ?_) (a' := ?_) #[true, false, false, false, false, false, false, false, false, false, false, false] rfl rfl (by kernel_rfl) (fun _ _ _ h => h) (Or.inl ⟨by rfl, ?_⟩) ?_ ?_
 rotate_left
 ·intro w'
  go_simp
  with_reducible rfl
 rotate_left
 ·simp only [Act.put, List.setIfInBounds_toArray, List.set_cons_zero, List.set_cons_succ, i64_w, i32_w]
  rfl
 refine pure_ (i := 1) (N := some 42) (v := ?_) (a' := ?_) #[true, true, false, false, false, false, false, false, false, false, false, false] rfl rfl (by kernel_rfl) (fun _ _ _ h => h) (Or.inl ⟨by rfl, ?_⟩) ?_ ?_
 rotate_left
 ·intro w'
  go_simp
  with_reducible rfl
 rotate_left
 ·simp only [Act.put, List.setIfInBounds_toArray, List.set_cons_zero, List.set_cons_succ, i64_w, i32_w]
  rfl
 refine pure_ (i := 2) (N := some 43) (v := ?_) (a' := ?_) #[true, true, true, false, false, false, false, false, false, false, false, false] rfl rfl (by kernel_rfl) (fun _ _ _ h => h) (Or.inl ⟨by rfl, ?_⟩) ?_ ?_
 rotate_left
 ·intro w'
  go_simp
  with_reducible rfl
 rotate_left
 ·simp only [Act.put, List.setIfInBounds_toArray, List.set_cons_zero, List.set_cons_succ, i64_w, i32_w]
  rfl
 refine pure_ (i := 4) (N := some 45) (v := ?_) (a' := ?_) #[true, true, true, false, true, false, false, false, false, false, false, false] rfl rfl (by kernel_rfl) (fun _ _ _ h => h) (Or.inl ⟨by rfl, ?_⟩) ?_ ?_
 rotate_left
 ·intro w'
  go_simp
  with_reducible rfl
 rotate_left
 ·simp only [Act.put, List.setIfInBounds_toArray, List.set_cons_zero, List.set_cons_succ, i64_w, i32_w]
  rfl
 refine pure_ (i := 5) (N := some 46) (v := ?_) (a' := ?_) #[true, true, true, false, true, true, false, false, false, false, false, false] rfl rfl (by kernel_rfl) (fun _ _ _ h => h) (Or.inl ⟨by rfl, ?_⟩) ?_ ?_
 rotate_left
 ·intro w'
  go_simp
  with_reducible rfl
 rotate_left
 ·simp only [Act.put, List.setIfInBounds_toArray, List.set_cons_zero, List.set_cons_succ, i64_w, i32_w]
  rfl
 refine pure_ (i := 6) (N := some 47) (v := ?_) (a' := ?_) #[true, true, true, false, true, true, true, false, false, false, false, false] rfl rfl (by kernel_rfl) (fun _ _ _ h => h) (Or.inl ⟨by rfl, ?_⟩) ?_ ?_
 rotate_left
 ·intro w'
  go_simp
  with_reducible rfl
 rotate_left
 ·simp only [Act.put, List.setIfInBounds_toArray, List.set_cons_zero, List.set_cons_succ, i64_w, i32_w]
  rfl
 refine take_ (i := 3) (N := some 44) (v := ?_) (a' := ?_) #[true, true, true, true, true, true, true, false, false, false, false, false] rfl rfl (by kernel_rfl) (fun _ _ _ h => h) (Or.inl ⟨by rfl, ?_⟩) hHeld ?_ ?_
 rotate_left
 ·rintro w' ⟨⟨s0, s1, s2⟩, ⟨s3, s4, s5⟩, s6, s7, s8⟩
  go_simp
  with_reducible rfl
 rotate_left
 ·simp only [Act.put, List.setIfInBounds_toArray, List.set_cons_zero, List.set_cons_succ, i64_w, i32_w]
  rfl
 refine take_ (i := 7) (N := some 48) (v := ?_) (a' := ?_) #[true, true, true, true, true, true, true, true, false, false, false, false] rfl rfl (by kernel_rfl) (fun _ _ _ h => h) (Or.inl ⟨by rfl, ?_⟩) hHeld ?_ ?_
 rotate_left
 ·rintro w' ⟨⟨s0, s1, s2⟩, ⟨s3, s4, s5⟩, s6, s7, s8⟩
  go_simp
  with_reducible rfl
 rotate_left
 ·simp only [Act.put, List.setIfInBounds_toArray, List.set_cons_zero, List.set_cons_succ, i64_w, i32_w]
  rfl
 refine pure_ (i := 8) (N := some 49) (v := ?_) (a' := ?_) #[true, true, true, true, true, true, true, true, true, false, false, false] rfl rfl (by kernel_rfl) (fun _ _ _ h => h) (Or.inl ⟨by rfl, ?_⟩) ?_ ?_
 rotate_left
 ·intro w'
  go_simp
  with_reducible rfl
 rotate_left
 ·simp only [Act.put, List.setIfInBounds_toArray, List.set_cons_zero, List.set_cons_succ, i64_w, i32_w]
  rfl
 refine pure_ (i := 9) (N := some 50) (v := ?_) (a' := ?_) #[true, true, true, true, true, true, true, true, true, true, false, false] rfl rfl (by kernel_rfl) (fun _ _ _ h => h) (Or.inl ⟨by rfl, ?_⟩) ?_ ?_
 rotate_left
 ·intro w'
  go_simp
  with_reducible rfl
 rotate_left
 ·simp only [Act.put, List.setIfInBounds_toArray, List.set_cons_zero, List.set_cons_succ, i64_w, i32_w]
  rfl
 refine take_ (i := 10) (N := some 51) (v := ?_) (a' := ?_) #[true, true, true, true, true, true, true, true, true, true, true, false] rfl rfl (by kernel_rfl) (fun _ _ _ h => h) (Or.inl ⟨by rfl, ?_⟩) hHeld ?_ ?_
 rotate_left
 ·rintro w' ⟨⟨s0, s1, s2⟩, ⟨s3, s4, s5⟩, s6, s7, s8⟩
  go_simp
  with_reducible rfl
 rotate_left
 ·simp only [Act.put, List.setIfInBounds_toArray, List.set_cons_zero, List.set_cons_succ, i64_w, i32_w]
  rfl
 refine pure_ (i := 11) (N := some 52) (v := ?_) (a' := ?_) #[true, true, true, true, true, true, true, true, true, true, true, true] rfl rfl (by kernel_rfl) (fun _ _ _ h => h) (Or.inl ⟨by rfl, ?_⟩) ?_ ?_
 rotate_left
 ·intro w'
  go_simp
  with_reducible rfl
 rotate_left
 ·simp only [Act.put, List.setIfInBounds_toArray, List.set_cons_zero, List.set_cons_succ, i64_w, i32_w]
  rfl
 refine done_ (by kernel_rfl) ?_
 obtain ⟨y0, y1, y2⟩ := HS.out.c3 n _ _ _ _ _ HE.out
 go_wp2_with fail
 go_ret
 exact ⟨rfl, HS.out⟩
set_option maxHeartbeats 6400000 in
set_option maxRecDepth 100000 in
theorem step_1 (h : St l w0 w) (n : Nat) (t : Int) (j : Nat) (e : l[n]? = some (SL.blk gc 100 #[.pointer (some ⟨gt, 0, none⟩), .int .i64 t, .int .i64 (j : Nat)])) (ad : Addr) (c : Nat) (RX : ∀ X, InA (l.set n X) gt id fr rs (some ad) c) (hj : j < rs.length) (hlen : rs.length ≤ 100000) (ht0 : 0 ≤ t) (ht1 : t ≤ 4000000) (hb : 0 ≤ (rd_T44 rs (j : Int)).f1 ∧ (rd_T44 rs (j : Int)).f1 + (rd_T44 rs (j : Int)).f2 ≤ 4000000) (hb2 : 0 ≤ (rd_T44 rs (j : Int)).f2) (c1 : ((rd_T44 rs (j : Int)).f1 + (rd_T44 rs (j : Int)).f2 ≤ t + 1)) (c2 : (t + 1 < fr)) :
  Calls Try.prog 18 #[.pointer (some ⟨gc, 0, none⟩)] w fun e w' => e = .returned (.bool true) ∧ St (l.set n (SL.blk gc 100 #[.pointer (some ⟨gt, 0, none⟩), .int .i64 (t + 1), .int .i64 (((j + 1 : Nat) : Nat) : Int)])) w0 w' := by
 have hlt : n < l.length := (List.getElem?_eq_some_iff.1 e).1
 have HE := Go.Lib.hid e
 have HS := Go.Lib.hid h
 have HRX := Go.Lib.hid RX
 have HB := Go.Lib.hid (And.intro hb hb2)
 obtain ⟨y0, y1, y2⟩ := h.c3 n _ _ _ _ _ e
 clear h e RX
 have p0 : (0 ≤ (j : Int)) = True := eq_true (by omega)
 have p1 : ((j : Int) < ((rs.length : Nat) : Int)) = True := eq_true (by omega)
 have q0 := HB.out.1.1
 have q1 := HB.out.1.2
 have q2 := HB.out.2
 have d1 : decide ((rd_T44 rs (j : Int)).f1 + (rd_T44 rs (j : Int)).f2 ≤ t + 1) = true := by simpa using c1
 have d2 : decide (t + 1 < fr) = true := by simpa using c2
 clear c1 c2 hb hb2
 go_enter Try.func18, Try.ntmps18
 go_upto_region 2 with ((with_reducible refine gate_store (p := 10) rfl ?_); refine Sl.store_st HS.out n gc 100 _ HE.out 1 (.int .i64 (t + 1)) (by rfl) (by rfl) ?hr ?_; (case hr => have f_ := HS.out.free n _ _ _ HE.out 1; first | (go_simp; done) | (go_simp; rfl)); intro w1_ HSn; have HSo : St (l.set n (SL.blk gc 100 #[.pointer (some ⟨gt, 0, none⟩), .int .i64 (t + 1), .int .i64 ((j : Nat) : Int)])) w0 w1_ := (by have h9 := HSn; (try rw [List.set_set] at h9); exact h9); have HEn : (l.set n (SL.blk gc 100 #[.pointer (some ⟨gt, 0, none⟩), .int .i64 (t + 1), .int .i64 ((j : Nat) : Int)]))[n]? = some (SL.blk gc 100 #[.pointer (some ⟨gt, 0, none⟩), .int .i64 (t + 1), .int .i64 ((j : Nat) : Int)]) := List.getElem?_set_self hlt; replace HS := Go.Lib.hid HSo; replace HE := Go.Lib.hid HEn; clear HSn HSo HEn y0 y1 y2; obtain ⟨y0, y1, y2⟩ := HS.out.c3 n _ _ _ _ _ HE.out)
 clear y0 y1 y2
 replace HS := Go.Lib.hid HS.out.drew
 refine start_ (n := 15) (S := fun w' => (w'.cell? ⟨gc, 0, none⟩ = some (.pointer (some ⟨gt, 0, none⟩)) ∧ w'.cell? ⟨gc, 1, none⟩ = some (.int .i64 (t + 1)) ∧ w'.cell? ⟨gc, 2, none⟩ = some (.int .i64 ((j : Nat) : Int))) ∧ (w'.cell? ⟨gt, 0, none⟩ = some (.int .i64 id) ∧ w'.cell? ⟨gt, 1, none⟩ = some (.int .i64 fr) ∧ w'.cell? ⟨gt, 2, none⟩ = some (.slice (some ad) rs.length c)) ∧ w'.cell? (ad.add (j * 3)) = some (.int .i64 (rd_T44 rs (j : Int)).f0) ∧ w'.cell? ⟨(ad.add (j * 3)).block, (ad.add (j * 3)).off + 1, none⟩ = some (.int .i64 (rd_T44 rs (j : Int)).f1) ∧ w'.cell? ⟨(ad.add (j * 3)).block, (ad.add (j * 3)).off + 2, none⟩ = some (.int .i64 (rd_T44 rs (j : Int)).f2)) (ds := [14]) #[false, false, false, false, false, false, false, false, false, false, false, false, false, false, false] (by kernel_rfl) rfl rfl ⟨HS.out.c3 n _ _ _ _ _ HE.out, (HRX.out _).sees HS.out j hj⟩ (fun hHeld => ?_)
 generalize w1_.drew = W_ at *
 refine pure_ (i := 0) (N := some 11) (v := ?_) (a' := ?_) #[true, false, false, false, false, false, false, false, false, false, false, false, false, false, false] rfl rfl (by kernel_rfl) (fun _ _ _ h => h) (Or.inl ⟨by rfl, ?_⟩) ?_ ?_
 rotate_left
 ·intro w'
  go_simp
  with_reducible rfl
 rotate_left
 ·simp only [Act.put, List.setIfInBounds_toArray, List.set_cons_zero, List.set_cons_succ, i64_w, i32_w]
  rfl
 refine pure_ (i := 1) (N := some 12) (v := ?_) (a' := ?_) #[true, true, false, false, false, false, false, false, false, false, false, false, false, false, false] rfl rfl (by kernel_rfl) (fun _ _ _ h => h) (Or.inl ⟨by rfl, ?_⟩) ?_ ?_
 rotate_left
 ·intro w'
  go_simp
  with_reducible rfl
 rotate_left
 ·simp only [Act.put, List.setIfInBounds_toArray, List.set_cons_zero, List.set_cons_succ, i64_w, i32_w]
  rfl
 refine pure_ (i := 2) (N := some 13) (v := ?_) (a' := ?_) #[true, true, true, false, false, false, false, false, false, false, false, false, false, false, false] rfl rfl (by kernel_rfl) (fun _ _ _ h => h) (Or.inl ⟨by rfl, ?_⟩) ?_ ?_
 rotate_left
 ·intro w'
  go_simp
  with_reducible rfl
 rotate_left
 ·simp only [Act.put, List.setIfInBounds_toArray, List.set_cons_zero, List.set_cons_succ, i64_w, i32_w]
  rfl
 refine pure_ (i := 7) (N := some 18) (v := ?_) (a' := ?_) #[true, true, true, false, false, false, false, true, false, false, false, false, false, false, false] rfl rfl (by kernel_rfl) (fun _ _ _ h => h) (Or.inl ⟨by rfl, ?_⟩) ?_ ?_
 rotate_left
 ·intro w'
  go_simp
  with_reducible rfl
 rotate_left
 ·simp only [Act.put, List.setIfInBounds_toArray, List.set_cons_zero, List.set_cons_succ, i64_w, i32_w]
  rfl
 refine pure_ (i := 8) (N := some 19) (v := ?_) (a' := ?_) #[true, true, true, false, false, false, false, true, true, false, false, false, false, false, false] rfl rfl (by kernel_rfl) (fun _ _ _ h => h) (Or.inl ⟨by rfl, ?_⟩) ?_ ?_
 rotate_left
 ·intro w'
  go_simp
  with_reducible rfl
 rotate_left
 ·simp only [Act.put, List.setIfInBounds_toArray, List.set_cons_zero, List.set_cons_succ, i64_w, i32_w]
  rfl
 refine pure_ (i := 9) (N := some 20) (v := ?_) (a' := ?_) #[true, true, true, false, false, false, false, true, true, true, false, false, false, false, false] rfl rfl (by kernel_rfl) (fun _ _ _ h => h) (Or.inl ⟨by rfl, ?_⟩) ?_ ?_
 rotate_left
 ·intro w'
  go_simp
  with_reducible rfl
 rotate_left
 ·simp only [Act.put, List.setIfInBounds_toArray, List.set_cons_zero, List.set_cons_succ, i64_w, i32_w]
  rfl
 refine take_ (i := 3) (N := some 14) (v := ?_) (a' := ?_) #[true, true, true, true, false, false, false, true, true, true, false, false, false, false, false] rfl rfl (by kernel_rfl) (fun _ _ _ h => h) (Or.inl ⟨by rfl, ?_⟩) hHeld ?_ ?_
 rotate_left
 ·rintro w' ⟨⟨s0, s1, s2⟩, ⟨s3, s4, s5⟩, s6, s7, s8⟩
  go_simp
  with_reducible rfl
 rotate_left
 ·simp only [Act.put, List.setIfInBounds_toArray, List.set_cons_zero, List.set_cons_succ, i64_w, i32_w]
  rfl
 refine pure_ (i := 4) (N := some 15) (v := ?_) (a' := ?_) #[true, true, true, true, true, false, false, true, true, true, false, false, false, false, false] rfl rfl (by kernel_rfl) (fun _ _ _ h => h) (Or.inl ⟨by rfl, ?_⟩) ?_ ?_
 rotate_left
 ·intro w'
  go_simp
  with_reducible rfl
 rotate_left
 ·simp only [Act.put, List.setIfInBounds_toArray, List.set_cons_zero, List.set_cons_succ, i64_w, i32_w]
  rfl
 refine pure_ (i := 5) (N := some 16) (v := ?_) (a' := ?_) #[true, true, true, true, true, true, false, true, true, true, false, false, false, false, false] rfl rfl (by kernel_rfl) (fun _ _ _ h => h) (Or.inl ⟨by rfl, ?_⟩) ?_ ?_
 rotate_left
 ·intro w'
  go_simp
  with_reducible rfl
 rotate_left
 ·simp only [Act.put, List.setIfInBounds_toArray, List.set_cons_zero, List.set_cons_succ, i64_w, i32_w]
  rfl
 refine take_ (i := 6) (N := some 17) (v := ?_) (a' := ?_) #[true, true, true, true, true, true, true, true, true, true, false, false, false, false, false] rfl rfl (by kernel_rfl) (fun _ _ _ h => h) (Or.inl ⟨by rfl, ?_⟩) hHeld ?_ ?_
 rotate_left
 ·rintro w' ⟨⟨s0, s1, s2⟩, ⟨s3, s4, s5⟩, s6, s7, s8⟩
  go_simp
  with_reducible rfl
 rotate_left
 ·simp only [Act.put, List.setIfInBounds_toArray, List.set_cons_zero, List.set_cons_succ, i64_w, i32_w]
  rfl
 refine take_ (i := 10) (N := some 21) (v := ?_) (a' := ?_) #[true, true, true, true, true, true, true, true, true, true, true, false, false, false, false] rfl rfl (by kernel_rfl) (fun _ _ _ h => h) (Or.inl ⟨by rfl, ?_⟩) hHeld ?_ ?_
 rotate_left
 ·rintro w' ⟨⟨s0, s1, s2⟩, ⟨s3, s4, s5⟩, s6, s7, s8⟩
  go_simp
  with_reducible rfl
 rotate_left
 ·simp only [Act.put, List.setIfInBounds_toArray, List.set_cons_zero, List.set_cons_succ, i64_w, i32_w]
  rfl
 refine pure_ (i := 11) (N := some 22) (v := ?_) (a' := ?_) #[true, true, true, true, true, true, true, true, true, true, true, true, false, false, false] rfl rfl (by kernel_rfl) (fun _ _ _ h => h) (Or.inl ⟨by rfl, ?_⟩) ?_ ?_
 rotate_left
 ·intro w'
  go_simp
  with_reducible rfl
 rotate_left
 ·simp only [Act.put, List.setIfInBounds_toArray, List.set_cons_zero, List.set_cons_succ, i64_w, i32_w]
  rfl
 refine take_ (i := 12) (N := some 23) (v := ?_) (a' := ?_) #[true, true, true, true, true, true, true, true, true, true, true, true, true, false, false] rfl rfl (by kernel_rfl) (fun _ _ _ h => h) (Or.inl ⟨by rfl, ?_⟩) hHeld ?_ ?_
 rotate_left
 ·rintro w' ⟨⟨s0, s1, s2⟩, ⟨s3, s4, s5⟩, s6, s7, s8⟩
  go_simp
  with_reducible rfl
 rotate_left
 ·simp only [Act.put, List.setIfInBounds_toArray, List.set_cons_zero, List.set_cons_succ, i64_w, i32_w]
  rfl
 refine one_ (i := 13) (N := some 3) #[true, true, true, true, true, true, true, true, true, true, true, true, true, true, false] rfl rfl (by kernel_rfl) (by decide) (fun K hK => ?_)
 refine Sl.box_stp HS.out (by rfl) (cs := #[.int .i64 0, .int .i64 0, .int .i64 0]) (t := 44) (by first | (go_simp; done) | (go_simp; rfl)) ?_
 intro g3 w11_ HSn hB_
 clear hB_
 have HSb := Go.Lib.hid HSn
 clear HSn
 refine hK.out _ _ ⟨HSb.out.c3 (n + 1) _ _ _ _ _ (by simpa using HE.out), ((HRX.out _).cons _).sees HSb.out j hj⟩ (fun hHeld => ?_)
 clear hK K
 refine norm_ (a' := ?_) ?_ ?_
 rotate_left
 ·show Act.put _ (some 3) _ = _
  simp only [Act.put, List.setIfInBounds_toArray, List.set_cons_zero, List.set_cons_succ, i64_w, i32_w]
  rfl
 refine last_ (i := 14) (N := none) #[true, true, true, true, true, true, true, true, true, true, true, true, true, true, true] rfl rfl (by kernel_rfl) (by decide) (fun K hK => ?_)
 have f_ := HSb.out.f3 0 _ _ _ _ _ rfl
 obtain ⟨f0_, f1_, f2_⟩ := f_
 obtain ⟨k0_, k1_, k2_⟩ := HSb.out.c3 0 _ _ _ _ _ rfl
 refine Sl.storeAll_stp HSb.out 0 g3 44 _ rfl [.int .i64 (rd_T44 rs (j : Int)).f0, .int .i64 (rd_T44 rs (j : Int)).f1, .int .i64 (rd_T44 rs (j : Int)).f2] rfl (by rfl) rfl (by first | (go_simp; done) | (go_simp; rfl)) ?_
 intro w12_ HSm
 clear f0_ f1_ f2_ k0_ k1_ k2_
 refine hK.out _ _ ?_
 clear hK K
 refine done_ (by kernel_rfl) ?_
 have HSk := Go.Lib.hid HSm
 clear HSm
 have e1_ : wrap64 ((rd_T44 rs (j : Int)).f1 + (rd_T44 rs (j : Int)).f2) = (rd_T44 rs (j : Int)).f1 + (rd_T44 rs (j : Int)).f2 := by unfold wrap64; omega
 have e0_ : IntKind.i64.wrap ((rd_T44 rs (j : Int)).f1 + (rd_T44 rs (j : Int)).f2) = (rd_T44 rs (j : Int)).f1 + (rd_T44 rs (j : Int)).f2 := IntWalk.i64_in _ (by omega)
 go_upto_region 3 with (fail)
 replace HSk := Go.Lib.hid HSk.out.drew
 refine start_ (n := 10) (S := fun w' => (w'.cell? ⟨gc, 0, none⟩ = some (.pointer (some ⟨gt, 0, none⟩)) ∧ w'.cell? ⟨gc, 1, none⟩ = some (.int .i64 (t + 1)) ∧ w'.cell? ⟨gc, 2, none⟩ = some (.int .i64 ((j : Nat) : Int))) ∧ (w'.cell? ⟨g3, 0, none⟩ = some (.int .i64 (rd_T44 rs (j : Int)).f0) ∧ w'.cell? ⟨g3, 1, none⟩ = some (.int .i64 (rd_T44 rs (j : Int)).f1) ∧ w'.cell? ⟨g3, 2, none⟩ = some (.int .i64 (rd_T44 rs (j : Int)).f2))) (ds := []) #[false, false, false, false, false, false, false, false, false, false] (by kernel_rfl) rfl rfl ⟨HSk.out.c3 (n + 1) _ _ _ _ _ (by simpa using HE.out), HSk.out.c3 0 _ _ _ _ _ rfl⟩ (fun hHeld => ?_)
 generalize w12_.drew = W3_ at *
 refine pure_ (i := 0) (N := some 24) (v := ?_) (a' := ?_) #[true, false, false, false, false, false, false, false, false, false] rfl rfl (by kernel_rfl) (fun _ _ _ h => h) (Or.inl ⟨by rfl, ?_⟩) ?_ ?_
 rotate_left
 ·intro w'
  go_simp
  with_reducible rfl
 rotate_left
 ·simp only [Act.put, List.setIfInBounds_toArray, List.set_cons_zero, List.set_cons_succ, i64_w, i32_w]
  rfl
 refine pure_ (i := 1) (N := some 25) (v := ?_) (a' := ?_) #[true, true, false, false, false, false, false, false, false, false] rfl rfl (by kernel_rfl) (fun _ _ _ h => h) (Or.inl ⟨by rfl, ?_⟩) ?_ ?_
 rotate_left
 ·intro w'
  go_simp
  with_reducible rfl
 rotate_left
 ·simp only [Act.put, List.setIfInBounds_toArray, List.set_cons_zero, List.set_cons_succ, i64_w, i32_w]
  rfl
 refine pure_ (i := 2) (N := some 26) (v := ?_) (a' := ?_) #[true, true, true, false, false, false, false, false, false, false] rfl rfl (by kernel_rfl) (fun _ _ _ h => h) (Or.inl ⟨by rfl, ?_⟩) ?_ ?_
 rotate_left
 ·intro w'
  go_simp
  with_reducible rfl
 rotate_left
 ·simp only [Act.put, List.setIfInBounds_toArray, List.set_cons_zero, List.set_cons_succ, i64_w, i32_w]
  rfl
 refine pure_ (i := 4) (N := some 28) (v := ?_) (a' := ?_) #[true, true, true, false, true, false, false, false, false, false] rfl rfl (by kernel_rfl) (fun _ _ _ h => h) (Or.inl ⟨by rfl, ?_⟩) ?_ ?_
 rotate_left
 ·intro w'
  go_simp
  with_reducible rfl
 rotate_left
 ·simp only [Act.put, List.setIfInBounds_toArray, List.set_cons_zero, List.set_cons_succ, i64_w, i32_w]
  rfl
 refine pure_ (i := 6) (N := some 30) (v := ?_) (a' := ?_) #[true, true, true, false, true, false, true, false, false, false] rfl rfl (by kernel_rfl) (fun _ _ _ h => h) (Or.inl ⟨by rfl, ?_⟩) ?_ ?_
 rotate_left
 ·intro w'
  go_simp
  with_reducible rfl
 rotate_left
 ·simp only [Act.put, List.setIfInBounds_toArray, List.set_cons_zero, List.set_cons_succ, i64_w, i32_w]
  rfl
 refine take_ (i := 3) (N := some 27) (v := ?_) (a' := ?_) #[true, true, true, true, true, false, true, false, false, false] rfl rfl (by kernel_rfl) (fun _ _ _ h => h) (Or.inl ⟨by rfl, ?_⟩) hHeld ?_ ?_
 rotate_left
 ·rintro w' ⟨⟨s0, s1, s2⟩, s3, s4, s5⟩
  go_simp
  with_reducible rfl
 rotate_left
 ·simp only [Act.put, List.setIfInBounds_toArray, List.set_cons_zero, List.set_cons_succ, i64_w, i32_w]
  rfl
 refine take_ (i := 5) (N := some 29) (v := ?_) (a' := ?_) #[true, true, true, true, true, true, true, false, false, false] rfl rfl (by kernel_rfl) (fun _ _ _ h => h) (Or.inl ⟨by rfl, ?_⟩) hHeld ?_ ?_
 rotate_left
 ·rintro w' ⟨⟨s0, s1, s2⟩, s3, s4, s5⟩
  go_simp
  with_reducible rfl
 rotate_left
 ·simp only [Act.put, List.setIfInBounds_toArray, List.set_cons_zero, List.set_cons_succ, i64_w, i32_w]
  rfl
 refine take_ (i := 7) (N := some 31) (v := ?_) (a' := ?_) #[true, true, true, true, true, true, true, true, false, false] rfl rfl (by kernel_rfl) (fun _ _ _ h => h) (Or.inl ⟨by rfl, ?_⟩) hHeld ?_ ?_
 rotate_left
 ·rintro w' ⟨⟨s0, s1, s2⟩, s3, s4, s5⟩
  go_simp
  with_reducible rfl
 rotate_left
 ·simp only [Act.put, List.setIfInBounds_toArray, List.set_cons_zero, List.set_cons_succ, i64_w, i32_w]
  rfl
 refine pure_ (i := 8) (N := some 32) (v := ?_) (a' := ?_) #[true, true, true, true, true, true, true, true, true, false] rfl rfl (by kernel_rfl) (fun _ _ _ h => h) (Or.inl ⟨by rfl, ?_⟩) ?_ ?_
 rotate_left
 ·intro w'
  go_simp
  with_reducible rfl
 rotate_left
 ·simp only [Act.put, List.setIfInBounds_toArray, List.set_cons_zero, List.set_cons_succ, i64_w, i32_w]
  rfl
 refine pure_ (i := 9) (N := some 33) (v := ?_) (a' := ?_) #[true, true, true, true, true, true, true, true, true, true] rfl rfl (by kernel_rfl) (fun _ _ _ h => h) (Or.inl ⟨by rfl, ?_⟩) ?_ ?_
 rotate_left
 ·intro w'
  go_simp
  with_reducible rfl
 rotate_left
 ·simp only [Act.put, List.setIfInBounds_toArray, List.set_cons_zero, List.set_cons_succ, i64_w, i32_w]
  rfl
 refine done_ (by kernel_rfl) ?_
 replace HS := Go.Lib.hid HSk.out.drop
 clear HSk e0_ e1_
 obtain ⟨y0, y1, y2⟩ := HS.out.c3 n _ _ _ _ _ HE.out
 go_upto_region 5 with ((with_reducible refine gate_store (p := 40) rfl ?_); refine Sl.store_st HS.out n gc 100 _ HE.out 2 (.int .i64 (((j + 1 : Nat) : Nat) : Int)) (by rfl) (by rfl) ?hr ?_; (case hr => have f_ := HS.out.free n _ _ _ HE.out 2; first | (go_simp; done) | (go_simp; rfl)); intro w4_ HSn; have HSo : St (l.set n (SL.blk gc 100 #[.pointer (some ⟨gt, 0, none⟩), .int .i64 (t + 1), .int .i64 (((j + 1 : Nat) : Nat) : Int)])) w0 w4_ := (by have h9 := HSn; (try rw [List.set_set] at h9); exact h9); have HEn : (l.set n (SL.blk gc 100 #[.pointer (some ⟨gt, 0, none⟩), .int .i64 (t + 1), .int .i64 (((j + 1 : Nat) : Nat) : Int)]))[n]? = some (SL.blk gc 100 #[.pointer (some ⟨gt, 0, none⟩), .int .i64 (t + 1), .int .i64 (((j + 1 : Nat) : Nat) : Int)]) := List.getElem?_set_self hlt; replace HS := Go.Lib.hid HSo; replace HE := Go.Lib.hid HEn; clear HSn HSo HEn y0 y1 y2; obtain ⟨y0, y1, y2⟩ := HS.out.c3 n _ _ _ _ _ HE.out)
 clear y0 y1 y2
 replace HS := Go.Lib.hid HS.out.drew
 refine start_ (n := 12) (S := fun w' => (w'.cell? ⟨gc, 0, none⟩ = some (.pointer (some ⟨gt, 0, none⟩)) ∧ w'.cell? ⟨gc, 1, none⟩ = some (.int .i64 (t + 1)) ∧ w'.cell? ⟨gc, 2, none⟩ = some (.int .i64 (((j + 1 : Nat) : Nat) : Int))) ∧ (w'.cell? ⟨gt, 0, none⟩ = some (.int .i64 id) ∧ w'.cell? ⟨gt, 1, none⟩ = some (.int .i64 fr) ∧ w'.cell? ⟨gt, 2, none⟩ = some (.slice (some ad) rs.length c)) ∧ w'.cell? (ad.add (j * 3)) = some (.int .i64 (rd_T44 rs (j : Int)).f0) ∧ w'.cell? ⟨(ad.add (j * 3)).block, (ad.add (j * 3)).off + 1, none⟩ = some (.int .i64 (rd_T44 rs (j : Int)).f1) ∧ w'.cell? ⟨(ad.add (j * 3)).block, (ad.add (j * 3)).off + 2, none⟩ = some (.int .i64 (rd_T44 rs (j : Int)).f2)) (ds := []) #[false, false, false, false, false, false, false, false, false, false, false, false] (by kernel_rfl) rfl rfl ⟨HS.out.c3 n _ _ _ _ _ HE.out, (HRX.out _).sees HS.out j hj⟩ (fun hHeld => ?_)
 generalize w4_.drew = W5_ at *
 refine pure_ (i := 0) (N := some 41) (v := ?_) (a' := ?_) #[true, false, false, false, false, false, false, false, false, false, false, false] rfl rfl (by kernel_rfl) (fun _ _ _ h => h) (Or.inl ⟨by rfl, ?_⟩) ?_ ?_
 rotate_left
 ·intro w'
  go_simp
  with_reducible rfl
 rotate_left
 ·simp only [Act.put, List.setIfInBounds_toArray, List.set_cons_zero, List.set_cons_succ, i64_w, i32_w]
  rfl
 refine pure_ (i := 1) (N := some 42) (v := ?_) (a' := ?_) #[true, true, false, false, false, false, false, false, false, false, false, false] rfl rfl (by kernel_rfl) (fun _ _ _ h => h) (Or.inl ⟨by rfl, ?_⟩) ?_ ?_
 rotate_left
 ·intro w'
  go_simp
  with_reducible rfl
 rotate_left
 ·simp only [Act.put, List.setIfInBounds_toArray, List.set_cons_zero, List.set_cons_succ, i64_w, i32_w]
  rfl
 refine pure_ (i := 2) (N := some 43) (v := ?_) (a' := ?_) #[true, true, true, false, false, false, false, false, false, false, false, false] rfl rfl (by kernel_rfl) (fun _ _ _ h => h) (Or.inl ⟨by rfl, ?_⟩) ?_ ?_
 rotate_left
 ·intro w'
  go_simp
  with_reducible rfl
 rotate_left
 ·simp only [Act.put, List.setIfInBounds_toArray, List.set_cons_zero, List.set_cons_succ, i64_w, i32_w]
  rfl
 refine pure_ (i := 4) (N := some 45) (v := ?_) (a' := ?_) #[true, true, true, false, true, false, false, false, false, false, false, false] rfl rfl (by kernel_rfl) (fun _ _ _ h => h) (Or.inl ⟨by rfl, ?_⟩) ?_ ?_
 rotate_left
 ·intro w'
  go_simp
  with_reducible rfl
 rotate_left
 ·simp only [Act.put, List.setIfInBounds_toArray, List.set_cons_zero, List.set_cons_succ, i64_w, i32_w]
  rfl
 refine pure_ (i := 5) (N := some 46) (v := ?_) (a' := ?_) #[true, true, true, false, true, true, false, false, false, false, false, false] rfl rfl (by kernel_rfl) (fun _ _ _ h => h) (Or.inl ⟨by rfl, ?_⟩) ?_ ?_
 rotate_left
 ·intro w'
  go_simp
  with_reducible rfl
 rotate_left
 ·simp only [Act.put, List.setIfInBounds_toArray, List.set_cons_zero, List.set_cons_succ, i64_w, i32_w]
  rfl
 refine pure_ (i := 6) (N := some 47) (v := ?_) (a' := ?_) #[true, true, true, false, true, true, true, false, false, false, false, false] rfl rfl (by kernel_rfl) (fun _ _ _ h => h) (Or.inl ⟨by rfl, ?_⟩) ?_ ?_
 rotate_left
 ·intro w'
  go_simp
  with_reducible rfl
 rotate_left
 ·simp only [Act.put, List.setIfInBounds_toArray, List.set_cons_zero, List.set_cons_succ, i64_w, i32_w]
  rfl
 refine take_ (i := 3) (N := some 44) (v := ?_) (a' := ?_) #[true, true, true, true, true, true, true, false, false, false, false, false] rfl rfl (by kernel_rfl) (fun _ _ _ h => h) (Or.inl ⟨by rfl, ?_⟩) hHeld ?_ ?_
 rotate_left
 ·rintro w' ⟨⟨s0, s1, s2⟩, ⟨s3, s4, s5⟩, s6, s7, s8⟩
  go_simp
  with_reducible rfl
 rotate_left
 ·simp only [Act.put, List.setIfInBounds_toArray, List.set_cons_zero, List.set_cons_succ, i64_w, i32_w]
  rfl
 refine take_ (i := 7) (N := some 48) (v := ?_) (a' := ?_) #[true, true, true, true, true, true, true, true, false, false, false, false] rfl rfl (by kernel_rfl) (fun _ _ _ h => h) (Or.inl ⟨by rfl, ?_⟩) hHeld ?_ ?_
 rotate_left
 ·rintro w' ⟨⟨s0, s1, s2⟩, ⟨s3, s4, s5⟩, s6, s7, s8⟩
  go_simp
  with_reducible rfl
 rotate_left
 ·simp only [Act.put, List.setIfInBounds_toArray, List.set_cons_zero, List.set_cons_succ, i64_w, i32_w]
  rfl
 refine pure_ (i := 8) (N := some 49) (v := ?_) (a' := ?_) #[true, true, true, true, true, true, true, true, true, false, false, false] rfl rfl (by kernel_rfl) (fun _ _ _ h => h) (Or.inl ⟨by rfl, ?_⟩) ?_ ?_
 rotate_left
 ·intro w'
  go_simp
  with_reducible rfl
 rotate_left
 ·simp only [Act.put, List.setIfInBounds_toArray, List.set_cons_zero, List.set_cons_succ, i64_w, i32_w]
  rfl
 refine pure_ (i := 9) (N := some 50) (v := ?_) (a' := ?_) #[true, true, true, true, true, true, true, true, true, true, false, false] rfl rfl (by kernel_rfl) (fun _ _ _ h => h) (Or.inl ⟨by rfl, ?_⟩) ?_ ?_
 rotate_left
 ·intro w'
  go_simp
  with_reducible rfl
 rotate_left
 ·simp only [Act.put, List.setIfInBounds_toArray, List.set_cons_zero, List.set_cons_succ, i64_w, i32_w]
  rfl
 refine take_ (i := 10) (N := some 51) (v := ?_) (a' := ?_) #[true, true, true, true, true, true, true, true, true, true, true, false] rfl rfl (by kernel_rfl) (fun _ _ _ h => h) (Or.inl ⟨by rfl, ?_⟩) hHeld ?_ ?_
 rotate_left
 ·rintro w' ⟨⟨s0, s1, s2⟩, ⟨s3, s4, s5⟩, s6, s7, s8⟩
  go_simp
  with_reducible rfl
 rotate_left
 ·simp only [Act.put, List.setIfInBounds_toArray, List.set_cons_zero, List.set_cons_succ, i64_w, i32_w]
  rfl
 refine pure_ (i := 11) (N := some 52) (v := ?_) (a' := ?_) #[true, true, true, true, true, true, true, true, true, true, true, true] rfl rfl (by kernel_rfl) (fun _ _ _ h => h) (Or.inl ⟨by rfl, ?_⟩) ?_ ?_
 rotate_left
 ·intro w'
  go_simp
  with_reducible rfl
 rotate_left
 ·simp only [Act.put, List.setIfInBounds_toArray, List.set_cons_zero, List.set_cons_succ, i64_w, i32_w]
  rfl
 refine done_ (by kernel_rfl) ?_
 obtain ⟨y0, y1, y2⟩ := HS.out.c3 n _ _ _ _ _ HE.out
 go_wp2_with fail
 go_ret
 exact ⟨rfl, HS.out⟩
set_option maxHeartbeats 6400000 in
set_option maxRecDepth 100000 in
theorem step_2 (h : St l w0 w) (n : Nat) (t : Int) (j : Nat) (e : l[n]? = some (SL.blk gc 100 #[.pointer (some ⟨gt, 0, none⟩), .int .i64 t, .int .i64 (j : Nat)])) (ad : Addr) (c : Nat) (RX : ∀ X, InA (l.set n X) gt id fr rs (some ad) c) (hj : j < rs.length) (hlen : rs.length ≤ 100000) (ht0 : 0 ≤ t) (ht1 : t ≤ 4000000) (hb : 0 ≤ (rd_T44 rs (j : Int)).f1 ∧ (rd_T44 rs (j : Int)).f1 + (rd_T44 rs (j : Int)).f2 ≤ 4000000) (hb2 : 0 ≤ (rd_T44 rs (j : Int)).f2) (c1 : ¬ ((rd_T44 rs (j : Int)).f1 + (rd_T44 rs (j : Int)).f2 ≤ t + 1)) (c2 : ¬ (t + 1 < fr)) :
  Calls Try.prog 18 #[.pointer (some ⟨gc, 0, none⟩)] w fun e w' => e = .returned (.bool false) ∧ St (l.set n (SL.blk gc 100 #[.pointer (some ⟨gt, 0, none⟩), .int .i64 0, .int .i64 ((0 : Nat) : Int)])) w0 w' := by
 have hlt : n < l.length := (List.getElem?_eq_some_iff.1 e).1
 have HE := Go.Lib.hid e
 have HS := Go.Lib.hid h
 have HRX := Go.Lib.hid RX
 have HB := Go.Lib.hid (And.intro hb hb2)
 obtain ⟨y0, y1, y2⟩ := h.c3 n _ _ _ _ _ e
 clear h e RX
 have p0 : (0 ≤ (j : Int)) = True := eq_true (by omega)
 have p1 : ((j : Int) < ((rs.length : Nat) : Int)) = True := eq_true (by omega)
 have q0 := HB.out.1.1
 have q1 := HB.out.1.2
 have q2 := HB.out.2
 have d1 : decide ((rd_T44 rs (j : Int)).f1 + (rd_T44 rs (j : Int)).f2 ≤ t + 1) = false := by simpa using c1
 have d2 : decide (t + 1 < fr) = false := by simpa using c2
 clear c1 c2 hb hb2
 go_enter Try.func18, Try.ntmps18
 go_upto_region 2 with ((with_reducible refine gate_store (p := 10) rfl ?_); refine Sl.store_st HS.out n gc 100 _ HE.out 1 (.int .i64 (t + 1)) (by rfl) (by rfl) ?hr ?_; (case hr => have f_ := HS.out.free n _ _ _ HE.out 1; first | (go_simp; done) | (go_simp; rfl)); intro w1_ HSn; have HSo : St (l.set n (SL.blk gc 100 #[.pointer (some ⟨gt, 0, none⟩), .int .i64 (t + 1), .int .i64 ((j : Nat) : Int)])) w0 w1_ := (by have h9 := HSn; (try rw [List.set_set] at h9); exact h9); have HEn : (l.set n (SL.blk gc 100 #[.pointer (some ⟨gt, 0, none⟩), .int .i64 (t + 1), .int .i64 ((j : Nat) : Int)]))[n]? = some (SL.blk gc 100 #[.pointer (some ⟨gt, 0, none⟩), .int .i64 (t + 1), .int .i64 ((j : Nat) : Int)]) := List.getElem?_set_self hlt; replace HS := Go.Lib.hid HSo; replace HE := Go.Lib.hid HEn; clear HSn HSo HEn y0 y1 y2; obtain ⟨y0, y1, y2⟩ := HS.out.c3 n _ _ _ _ _ HE.out)
 clear y0 y1 y2
 replace HS := Go.Lib.hid HS.out.drew
 refine start_ (n := 15) (S := fun w' => (w'.cell? ⟨gc, 0, none⟩ = some (.pointer (some ⟨gt, 0, none⟩)) ∧ w'.cell? ⟨gc, 1, none⟩ = some (.int .i64 (t + 1)) ∧ w'.cell? ⟨gc, 2, none⟩ = some (.int .i64 ((j : Nat) : Int))) ∧ (w'.cell? ⟨gt, 0, none⟩ = some (.int .i64 id) ∧ w'.cell? ⟨gt, 1, none⟩ = some (.int .i64 fr) ∧ w'.cell? ⟨gt, 2, none⟩ = some (.slice (some ad) rs.length c)) ∧ w'.cell? (ad.add (j * 3)) = some (.int .i64 (rd_T44 rs (j : Int)).f0) ∧ w'.cell? ⟨(ad.add (j * 3)).block, (ad.add (j * 3)).off + 1, none⟩ = some (.int .i64 (rd_T44 rs (j : Int)).f1) ∧ w'.cell? ⟨(ad.add (j * 3)).block, (ad.add (j * 3)).off + 2, none⟩ = some (.int .i64 (rd_T44 rs (j : Int)).f2)) (ds := [14]) #[false, false, false, false, false, false, false, false, false, false, false, false, false, false, false] (by kernel_rfl) rfl rfl ⟨HS.out.c3 n _ _ _ _ _ HE.out, (HRX.out _).sees HS.out j hj⟩ (fun hHeld => ?_)
 generalize w1_.drew = W_ at *
 refine pure_ (i := 0) (N := some 11) (v := ?_) (a' := ?_) #[true, false, false, false, false, false, false, false, false, false, false, false, false, false, false] rfl rfl (by kernel_rfl) (fun _ _ _ h => h) (Or.inl ⟨by rfl, ?_⟩) ?_ ?_
 rotate_left
 ·intro w'
  go_simp
  with_reducible rfl
 rotate_left
 ·simp only [Act.put, List.setIfInBounds_toArray, List.set_cons_zero, List.set_cons_succ, i64_w, i32_w]
  rfl
 refine pure_ (i := 1) (N := some 12) (v := ?_) (a' := ?_) #[true, true, false, false, false, false, false, false, false, false, false, false, false, false, false] rfl rfl (by kernel_rfl) (fun _ _ _ h => h) (Or.inl ⟨by rfl, ?_⟩) ?_ ?_
 rotate_left
 ·intro w'
  go_simp
  with_reducible rfl
 rotate_left
 ·simp only [Act.put, List.setIfInBounds_toArray, List.set_cons_zero, List.set_cons_succ, i64_w, i32_w]
  rfl
 refine pure_ (i := 2) (N := some 13) (v := ?_) (a' := ?_) #[true, true, true, false, false, false, false, false, false, false, false, false, false, false, false] rfl rfl (by kernel_rfl) (fun _ _ _ h => h) (Or.inl ⟨by rfl, ?_⟩) ?_ ?_
 rotate_left
 ·intro w'
  go_simp
  with_reducible rfl
 rotate_left
 ·simp only [Act.put, List.setIfInBounds_toArray, List.set_cons_zero, List.set_cons_succ, i64_w, i32_w]
  rfl
 refine pure_ (i := 7) (N := some 18) (v := ?_) (a' := ?_) #[true, true, true, false, false, false, false, true, false, false, false, false, false, false, false] rfl rfl (by kernel_rfl) (fun _ _ _ h => h) (Or.inl ⟨by rfl, ?_⟩) ?_ ?_
 rotate_left
 ·intro w'
  go_simp
  with_reducible rfl
 rotate_left
 ·simp only [Act.put, List.setIfInBounds_toArray, List.set_cons_zero, List.set_cons_succ, i64_w, i32_w]
  rfl
 refine pure_ (i := 8) (N := some 19) (v := ?_) (a' := ?_) #[true, true, true, false, false, false, false, true, true, false, false, false, false, false, false] rfl rfl (by kernel_rfl) (fun _ _ _ h => h) (Or.inl ⟨by rfl, ?_⟩) ?_ ?_
 rotate_left
 ·intro w'
  go_simp
  with_reducible rfl
 rotate_left
 ·simp only [Act.put, List.setIfInBounds_toArray, List.set_cons_zero, List.set_cons_succ, i64_w, i32_w]
  rfl
 refine pure_ (i := 9) (N := some 20) (v := ?_) (a' := ?_) #[true, true, true, false, false, false, false, true, true, true, false, false, false, false, false] rfl rfl (by kernel_rfl) (fun _ _ _ h => h) (Or.inl ⟨by rfl, ?_⟩) ?_ ?_
 rotate_left
 ·intro w'
  go_simp
  with_reducible rfl
 rotate_left
 ·simp only [Act.put, List.setIfInBounds_toArray, List.set_cons_zero, List.set_cons_succ, i64_w, i32_w]
  rfl
 refine take_ (i := 3) (N := some 14) (v := ?_) (a' := ?_) #[true, true, true, true, false, false, false, true, true, true, false, false, false, false, false] rfl rfl (by kernel_rfl) (fun _ _ _ h => h) (Or.inl ⟨by rfl, ?_⟩) hHeld ?_ ?_
 rotate_left
 ·rintro w' ⟨⟨s0, s1, s2⟩, ⟨s3, s4, s5⟩, s6, s7, s8⟩
  go_simp
  with_reducible rfl
 rotate_left
 ·simp only [Act.put, List.setIfInBounds_toArray, List.set_cons_zero, List.set_cons_succ, i64_w, i32_w]
  rfl
 refine pure_ (i := 4) (N := some 15) (v := ?_) (a' := ?_) #[true, true, true, true, true, false, false, true, true, true, false, false, false, false, false] rfl rfl (by kernel_rfl) (fun _ _ _ h => h) (Or.inl ⟨by rfl, ?_⟩) ?_ ?_
 rotate_left
 ·intro w'
  go_simp
  with_reducible rfl
 rotate_left
 ·simp only [Act.put, List.setIfInBounds_toArray, List.set_cons_zero, List.set_cons_succ, i64_w, i32_w]
  rfl
 refine pure_ (i := 5) (N := some 16) (v := ?_) (a' := ?_) #[true, true, true, true, true, true, false, true, true, true, false, false, false, false, false] rfl rfl (by kernel_rfl) (fun _ _ _ h => h) (Or.inl ⟨by rfl, ?_⟩) ?_ ?_
 rotate_left
 ·intro w'
  go_simp
  with_reducible rfl
 rotate_left
 ·simp only [Act.put, List.setIfInBounds_toArray, List.set_cons_zero, List.set_cons_succ, i64_w, i32_w]
  rfl
 refine take_ (i := 6) (N := some 17) (v := ?_) (a' := ?_) #[true, true, true, true, true, true, true, true, true, true, false, false, false, false, false] rfl rfl (by kernel_rfl) (fun _ _ _ h => h) (Or.inl ⟨by rfl, ?_⟩) hHeld ?_ ?_
 rotate_left
 ·rintro w' ⟨⟨s0, s1, s2⟩, ⟨s3, s4, s5⟩, s6, s7, s8⟩
  go_simp
  with_reducible rfl
 rotate_left
 ·simp only [Act.put, List.setIfInBounds_toArray, List.set_cons_zero, List.set_cons_succ, i64_w, i32_w]
  rfl
 refine take_ (i := 10) (N := some 21) (v := ?_) (a' := ?_) #[true, true, true, true, true, true, true, true, true, true, true, false, false, false, false] rfl rfl (by kernel_rfl) (fun _ _ _ h => h) (Or.inl ⟨by rfl, ?_⟩) hHeld ?_ ?_
 rotate_left
 ·rintro w' ⟨⟨s0, s1, s2⟩, ⟨s3, s4, s5⟩, s6, s7, s8⟩
  go_simp
  with_reducible rfl
 rotate_left
 ·simp only [Act.put, List.setIfInBounds_toArray, List.set_cons_zero, List.set_cons_succ, i64_w, i32_w]
  rfl
 refine pure_ (i := 11) (N := some 22) (v := ?_) (a' := ?_) #[true, true, true, true, true, true, true, true, true, true, true, true, false, false, false] rfl rfl (by kernel_rfl) (fun _ _ _ h => h) (Or.inl ⟨by rfl, ?_⟩) ?_ ?_
 rotate_left
 ·intro w'
  go_simp
  with_reducible rfl
 rotate_left
 ·simp only [Act.put, List.setIfInBounds_toArray, List.set_cons_zero, List.set_cons_succ, i64_w, i32_w]
  rfl
 refine take_ (i := 12) (N := some 23) (v := ?_) (a' := ?_) #[true, true, true, true, true, true, true, true, true, true, true, true, true, false, false] rfl rfl (by kernel_rfl) (fun _ _ _ h => h) (Or.inl ⟨by rfl, ?_⟩) hHeld ?_ ?_
 rotate_left
 ·rintro w' ⟨⟨s0, s1, s2⟩, ⟨s3, s4, s5⟩, s6, s7, s8⟩
  go_simp
  with_reducible rfl
 rotate_left
 ·simp only [Act.put, List.setIfInBounds_toArray, List.set_cons_zero, List.set_cons_succ, i64_w, i32_w]
  rfl
 refine one_ (i := 13) (N := some 3) #[true, true, true, true, true, true, true, true, true, true, true, true, true, true, false] rfl rfl (by kernel_rfl) (by decide) (fun K hK => ?_)
 refine Sl.box_stp HS.out (by rfl) (cs := #[.int .i64 0, .int .i64 0, .int .i64 0]) (t := 44) (by first | (go_simp; done) | (go_simp; rfl)) ?_
 intro g3 w11_ HSn hB_
 clear hB_
 have HSb := Go.Lib.hid HSn
 clear HSn
 refine hK.out _ _ ⟨HSb.out.c3 (n + 1) _ _ _ _ _ (by simpa using HE.out), ((HRX.out _).cons _).sees HSb.out j hj⟩ (fun hHeld => ?_)
 clear hK K
 refine norm_ (a' := ?_) ?_ ?_
 rotate_left
 ·show Act.put _ (some 3) _ = _
  simp only [Act.put, List.setIfInBounds_toArray, List.set_cons_zero, List.set_cons_succ, i64_w, i32_w]
  rfl
 refine last_ (i := 14) (N := none) #[true, true, true, true, true, true, true, true, true, true, true, true, true, true, true] rfl rfl (by kernel_rfl) (by decide) (fun K hK => ?_)
 have f_ := HSb.out.f3 0 _ _ _ _ _ rfl
 obtain ⟨f0_, f1_, f2_⟩ := f_
 obtain ⟨k0_, k1_, k2_⟩ := HSb.out.c3 0 _ _ _ _ _ rfl
 refine Sl.storeAll_stp HSb.out 0 g3 44 _ rfl [.int .i64 (rd_T44 rs (j : Int)).f0, .int .i64 (rd_T44 rs (j : Int)).f1, .int .i64 (rd_T44 rs (j : Int)).f2] rfl (by rfl) rfl (by first | (go_simp; done) | (go_simp; rfl)) ?_
 intro w12_ HSm
 clear f0_ f1_ f2_ k0_ k1_ k2_
 refine hK.out _ _ ?_
 clear hK K
 refine done_ (by kernel_rfl) ?_
 have HSk := Go.Lib.hid HSm
 clear HSm
 have e1_ : wrap64 ((rd_T44 rs (j : Int)).f1 + (rd_T44 rs (j : Int)).f2) = (rd_T44 rs (j : Int)).f1 + (rd_T44 rs (j : Int)).f2 := by unfold wrap64; omega
 have e0_ : IntKind.i64.wrap ((rd_T44 rs (j : Int)).f1 + (rd_T44 rs (j : Int)).f2) = (rd_T44 rs (j : Int)).f1 + (rd_T44 rs (j : Int)).f2 := IntWalk.i64_in _ (by omega)
 go_upto_region 3 with (fail)
 replace HSk := Go.Lib.hid HSk.out.drew
 refine start_ (n := 10) (S := fun w' => (w'.cell? ⟨gc, 0, none⟩ = some (.pointer (some ⟨gt, 0, none⟩)) ∧ w'.cell? ⟨gc, 1, none⟩ = some (.int .i64 (t + 1)) ∧ w'.cell? ⟨gc, 2, none⟩ = some (.int .i64 ((j : Nat) : Int))) ∧ (w'.cell? ⟨g3, 0, none⟩ = some (.int .i64 (rd_T44 rs (j : Int)).f0) ∧ w'.cell? ⟨g3, 1, none⟩ = some (.int .i64 (rd_T44 rs (j : Int)).f1) ∧ w'.cell? ⟨g3, 2, none⟩ = some (.int .i64 (rd_T44 rs (j : Int)).f2))) (ds := []) #[false, false, false, false, false, false, false, false, false, false] (by kernel_rfl) rfl rfl ⟨HSk.out.c3 (n + 1) _ _ _ _ _ (by simpa using HE.out), HSk.out.c3 0 _ _ _ _ _ rfl⟩ (fun hHeld => ?_)
 generalize w12_.drew = W3_ at *
 refine pure_ (i := 0) (N := some 24) (v := ?_) (a' := ?_) #[true, false, false, false, false, false, false, false, false, false] rfl rfl (by kernel_rfl) (fun _ _ _ h => h) (Or.inl ⟨by rfl, ?_⟩) ?_ ?_
 rotate_left
 ·intro w'
  go_simp
  with_reducible rfl
 rotate_left
 ·simp only [Act.put, List.setIfInBounds_toArray, List.set_cons_zero, List.set_cons_succ, i64_w, i32_w]
  rfl
 refine pure_ (i := 1) (N := some 25) (v := ?_) (a' := ?_) #[true, true, false, false, false, false, false, false, false, false] rfl rfl (by kernel_rfl) (fun _ _ _ h => h) (Or.inl ⟨by rfl, ?_⟩) ?_ ?_
 rotate_left
 ·intro w'
  go_simp
  with_reducible rfl
 rotate_left
 ·simp only [Act.put, List.setIfInBounds_toArray, List.set_cons_zero, List.set_cons_succ, i64_w, i32_w]
  rfl
 refine pure_ (i := 2) (N := some 26) (v := ?_) (a' := ?_) #[true, true, true, false, false, false, false, false, false, false] rfl rfl (by kernel_rfl) (fun _ _ _ h => h) (Or.inl ⟨by rfl, ?_⟩) ?_ ?_
 rotate_left
 ·intro w'
  go_simp
  with_reducible rfl
 rotate_left
 ·simp only [Act.put, List.setIfInBounds_toArray, List.set_cons_zero, List.set_cons_succ, i64_w, i32_w]
  rfl
 refine pure_ (i := 4) (N := some 28) (v := ?_) (a' := ?_) #[true, true, true, false, true, false, false, false, false, false] rfl rfl (by kernel_rfl) (fun _ _ _ h => h) (Or.inl ⟨by rfl, ?_⟩) ?_ ?_
 rotate_left
 ·intro w'
  go_simp
  with_reducible rfl
 rotate_left
 ·simp only [Act.put, List.setIfInBounds_toArray, List.set_cons_zero, List.set_cons_succ, i64_w, i32_w]
  rfl
 refine pure_ (i := 6) (N := some 30) (v := ?_) (a' := ?_) #[true, true, true, false, true, false, true, false, false, false] rfl rfl (by kernel_rfl) (fun _ _ _ h => h) (Or.inl ⟨by rfl, ?_⟩) ?_ ?_
 rotate_left
 ·intro w'
  go_simp
  with_reducible rfl
 rotate_left
 ·simp only [Act.put, List.setIfInBounds_toArray, List.set_cons_zero, List.set_cons_succ, i64_w, i32_w]
  rfl
 refine take_ (i := 3) (N := some 27) (v := ?_) (a' := ?_) #[true, true, true, true, true, false, true, false, false, false] rfl rfl (by kernel_rfl) (fun _ _ _ h => h) (Or.inl ⟨by rfl, ?_⟩) hHeld ?_ ?_
 rotate_left
 ·rintro w' ⟨⟨s0, s1, s2⟩, s3, s4, s5⟩
  go_simp
  with_reducible rfl
 rotate_left
 ·simp only [Act.put, List.setIfInBounds_toArray, List.set_cons_zero, List.set_cons_succ, i64_w, i32_w]
  rfl
 refine take_ (i := 5) (N := some 29) (v := ?_) (a' := ?_) #[true, true, true, true, true, true, true, false, false, false] rfl rfl (by kernel_rfl) (fun _ _ _ h => h) (Or.inl ⟨by rfl, ?_⟩) hHeld ?_ ?_
 rotate_left
 ·rintro w' ⟨⟨s0, s1, s2⟩, s3, s4, s5⟩
  go_simp
  with_reducible rfl
 rotate_left
 ·simp only [Act.put, List.setIfInBounds_toArray, List.set_cons_zero, List.set_cons_succ, i64_w, i32_w]
  rfl
 refine take_ (i := 7) (N := some 31) (v := ?_) (a' := ?_) #[true, true, true, true, true, true, true, true, false, false] rfl rfl (by kernel_rfl) (fun _ _ _ h => h) (Or.inl ⟨by rfl, ?_⟩) hHeld ?_ ?_
 rotate_left
 ·rintro w' ⟨⟨s0, s1, s2⟩, s3, s4, s5⟩
  go_simp
  with_reducible rfl
 rotate_left
 ·simp only [Act.put, List.setIfInBounds_toArray, List.set_cons_zero, List.set_cons_succ, i64_w, i32_w]
  rfl
 refine pure_ (i := 8) (N := some 32) (v := ?_) (a' := ?_) #[true, true, true, true, true, true, true, true, true, false] rfl rfl (by kernel_rfl) (fun _ _ _ h => h) (Or.inl ⟨by rfl, ?_⟩) ?_ ?_
 rotate_left
 ·intro w'
  go_simp
  with_reducible rfl
 rotate_left
 ·simp only [Act.put, List.setIfInBounds_toArray, List.set_cons_zero, List.set_cons_succ, i64_w, i32_w]
  rfl
 refine pure_ (i := 9) (N := some 33) (v := ?_) (a' := ?_) #[true, true, true, true, true, true, true, true, true, true] rfl rfl (by kernel_rfl) (fun _ _ _ h => h) (Or.inl ⟨by rfl, ?_⟩) ?_ ?_
 rotate_left
 ·intro w'
  go_simp
  with_reducible rfl
 rotate_left
 ·simp only [Act.put, List.setIfInBounds_toArray, List.set_cons_zero, List.set_cons_succ, i64_w, i32_w]
  rfl
 refine done_ (by kernel_rfl) ?_
 replace HS := Go.Lib.hid HSk.out.drop
 clear HSk e0_ e1_
 obtain ⟨y0, y1, y2⟩ := HS.out.c3 n _ _ _ _ _ HE.out
 go_upto_region 5 with (fail)
 clear y0 y1 y2
 replace HS := Go.Lib.hid HS.out.drew
 refine start_ (n := 12) (S := fun w' => (w'.cell? ⟨gc, 0, none⟩ = some (.pointer (some ⟨gt, 0, none⟩)) ∧ w'.cell? ⟨gc, 1, none⟩ = some (.int .i64 (t + 1)) ∧ w'.cell? ⟨gc, 2, none⟩ = some (.int .i64 ((j : Nat) : Int))) ∧ (w'.cell? ⟨gt, 0, none⟩ = some (.int .i64 id) ∧ w'.cell? ⟨gt, 1, none⟩ = some (.int .i64 fr) ∧ w'.cell? ⟨gt, 2, none⟩ = some (.slice (some ad) rs.length c)) ∧ w'.cell? (ad.add (j * 3)) = some (.int .i64 (rd_T44 rs (j : Int)).f0) ∧ w'.cell? ⟨(ad.add (j * 3)).block, (ad.add (j * 3)).off + 1, none⟩ = some (.int .i64 (rd_T44 rs (j : Int)).f1) ∧ w'.cell? ⟨(ad.add (j * 3)).block, (ad.add (j * 3)).off + 2, none⟩ = some (.int .i64 (rd_T44 rs (j : Int)).f2)) (ds := []) #[false, false, false, false, false, false, false, false, false, false, false, false] (by kernel_rfl) rfl rfl ⟨HS.out.c3 n _ _ _ _ _ HE.out, (HRX.out _).sees HS.out j hj⟩ (fun hHeld => ?_)
 generalize W3_.drew = W5_ at *
 refine pure_ (i := 0) (N := some 41) (v := ?_) (a' := ?_) #[true, false, false, false, false, false, false, false, false, false, false, false] rfl rfl (by kernel_rfl) (fun _ _ _ h => h) (Or.inl ⟨by rfl, ?_⟩) ?_ ?_
 rotate_left
 ·intro w'
  go_simp
  with_reducible rfl
 rotate_left
 ·simp only [Act.put, List.setIfInBounds_toArray, List.set_cons_zero, List.set_cons_succ, i64_w, i32_w]
  rfl
 refine pure_ (i := 1) (N := some 42) (v := ?_) (a' := ?_) #[true, true, false, false, false, false, false, false, false, false, false, false] rfl rfl (by kernel_rfl) (fun _ _ _ h => h) (Or.inl ⟨by rfl, ?_⟩) ?_ ?_
 rotate_left
 ·intro w'
  go_simp
  with_reducible rfl
 rotate_left
 ·simp only [Act.put, List.setIfInBounds_toArray, List.set_cons_zero, List.set_cons_succ, i64_w, i32_w]
  rfl
 refine pure_ (i := 2) (N := some 43) (v := ?_) (a' := ?_) #[true, true, true, false, false, false, false, false, false, false, false, false] rfl rfl (by kernel_rfl) (fun _ _ _ h => h) (Or.inl ⟨by rfl, ?_⟩) ?_ ?_
 rotate_left
 ·intro w'
  go_simp
  with_reducible rfl
 rotate_left
 ·simp only [Act.put, List.setIfInBounds_toArray, List.set_cons_zero, List.set_cons_succ, i64_w, i32_w]
  rfl
 refine pure_ (i := 4) (N := some 45) (v := ?_) (a' := ?_) #[true, true, true, false, true, false, false, false, false, false, false, false] rfl rfl (by kernel_rfl) (fun _ _ _ h => h) (Or.inl ⟨by rfl, ?_⟩) ?_ ?_
 rotate_left
 ·intro w'
  go_simp
  with_reducible rfl
 rotate_left
 ·simp only [Act.put, List.setIfInBounds_toArray, List.set_cons_zero, List.set_cons_succ, i64_w, i32_w]
  rfl
 refine pure_ (i := 5) (N := some 46) (v := ?_) (a' := ?_) #[true, true, true, false, true, true, false, false, false, false, false, false] rfl rfl (by kernel_rfl) (fun _ _ _ h => h) (Or.inl ⟨by rfl, ?_⟩) ?_ ?_
 rotate_left
 ·intro w'
  go_simp
  with_reducible rfl
 rotate_left
 ·simp only [Act.put, List.setIfInBounds_toArray, List.set_cons_zero, List.set_cons_succ, i64_w, i32_w]
  rfl
 refine pure_ (i := 6) (N := some 47) (v := ?_) (a' := ?_) #[true, true, true, false, true, true, true, false, false, false, false, false] rfl rfl (by kernel_rfl) (fun _ _ _ h => h) (Or.inl ⟨by rfl, ?_⟩) ?_ ?_
 rotate_left
 ·intro w'
  go_simp
  with_reducible rfl
 rotate_left
 ·simp only [Act.put, List.setIfInBounds_toArray, List.set_cons_zero, List.set_cons_succ, i64_w, i32_w]
  rfl
 refine take_ (i := 3) (N := some 44) (v := ?_) (a' := ?_) #[true, true, true, true, true, true, true, false, false, false, false, false] rfl rfl (by kernel_rfl) (fun _ _ _ h => h) (Or.inl ⟨by rfl, ?_⟩) hHeld ?_ ?_
 rotate_left
 ·rintro w' ⟨⟨s0, s1, s2⟩, ⟨s3, s4, s5⟩, s6, s7, s8⟩
  go_simp
  with_reducible rfl
 rotate_left
 ·simp only [Act.put, List.setIfInBounds_toArray, List.set_cons_zero, List.set_cons_succ, i64_w, i32_w]
  rfl
 refine take_ (i := 7) (N := some 48) (v := ?_) (a' := ?_) #[true, true, true, true, true, true, true, true, false, false, false, false] rfl rfl (by kernel_rfl) (fun _ _ _ h => h) (Or.inl ⟨by rfl, ?_⟩) hHeld ?_ ?_
 rotate_left
 ·rintro w' ⟨⟨s0, s1, s2⟩, ⟨s3, s4, s5⟩, s6, s7, s8⟩
  go_simp
  with_reducible rfl
 rotate_left
 ·simp only [Act.put, List.setIfInBounds_toArray, List.set_cons_zero, List.set_cons_succ, i64_w, i32_w]
  rfl
 refine pure_ (i := 8) (N := some 49) (v := ?_) (a' := ?_) #[true, true, true, true, true, true, true, true, true, false, false, false] rfl rfl (by kernel_rfl) (fun _ _ _ h => h) (Or.inl ⟨by rfl, ?_⟩) ?_ ?_
 rotate_left
 ·intro w'
  go_simp
  with_reducible rfl
 rotate_left
 ·simp only [Act.put, List.setIfInBounds_toArray, List.set_cons_zero, List.set_cons_succ, i64_w, i32_w]
  rfl
 refine pure_ (i := 9) (N := some 50) (v := ?_) (a' := ?_) #[true, true, true, true, true, true, true, true, true, true, false, false] rfl rfl (by kernel_rfl) (fun _ _ _ h => h) (Or.inl ⟨by rfl, ?_⟩) ?_ ?_
 rotate_left
 ·intro w'
  go_simp
  with_reducible rfl
 rotate_left
 ·simp only [Act.put, List.setIfInBounds_toArray, List.set_cons_zero, List.set_cons_succ, i64_w, i32_w]
  rfl
 refine take_ (i := 10) (N := some 51) (v := ?_) (a' := ?_) #[true, true, true, true, true, true, true, true, true, true, true, false] rfl rfl (by kernel_rfl) (fun _ _ _ h => h) (Or.inl ⟨by rfl, ?_⟩) hHeld ?_ ?_
 rotate_left
 ·rintro w' ⟨⟨s0, s1, s2⟩, ⟨s3, s4, s5⟩, s6, s7, s8⟩
  go_simp
  with_reducible rfl
 rotate_left
 ·simp only [Act.put, List.setIfInBounds_toArray, List.set_cons_zero, List.set_cons_succ, i64_w, i32_w]
  rfl
 refine pure_ (i := 11) (N := some 52) (v := ?_) (a' := ?_) #[true, true, true, true, true, true, true, true, true, true, true, true] rfl rfl (by kernel_rfl) (fun _ _ _ h => h) (Or.inl ⟨by rfl, ?_⟩) ?_ ?_
 rotate_left
 ·intro w'
  go_simp
  with_reducible rfl
 rotate_left
 ·simp only [Act.put, List.setIfInBounds_toArray, List.set_cons_zero, List.set_cons_succ, i64_w, i32_w]
  rfl
 refine done_ (by kernel_rfl) ?_
 obtain ⟨y0, y1, y2⟩ := HS.out.c3 n _ _ _ _ _ HE.out
 go_wp2_with (first | ((with_reducible refine gate_store (p := 56) rfl ?_); refine Sl.store_st HS.out n gc 100 _ HE.out 1 (.int .i64 0) (by rfl) (by rfl) ?hr ?_; (case hr => have f_ := HS.out.free n _ _ _ HE.out 1; first | (go_simp; done) | (go_simp; rfl)); intro w6_ HSn; have HSo : St (l.set n (SL.blk gc 100 #[.pointer (some ⟨gt, 0, none⟩), .int .i64 0, .int .i64 ((j : Nat) : Int)])) w0 w6_ := (by have h9 := HSn; (try rw [List.set_set] at h9); exact h9); have HEn : (l.set n (SL.blk gc 100 #[.pointer (some ⟨gt, 0, none⟩), .int .i64 0, .int .i64 ((j : Nat) : Int)]))[n]? = some (SL.blk gc 100 #[.pointer (some ⟨gt, 0, none⟩), .int .i64 0, .int .i64 ((j : Nat) : Int)]) := List.getElem?_set_self hlt; replace HS := Go.Lib.hid HSo; replace HE := Go.Lib.hid HEn; clear HSn HSo HEn y0 y1 y2; obtain ⟨y0, y1, y2⟩ := HS.out.c3 n _ _ _ _ _ HE.out) | ((with_reducible refine gate_store (p := 58) rfl ?_); refine Sl.store_st HS.out n gc 100 _ HE.out 2 (.int .i64 0) (by rfl) (by rfl) ?hr ?_; (case hr => have f_ := HS.out.free n _ _ _ HE.out 2; first | (go_simp; done) | (go_simp; rfl)); intro w7_ HSn; have HSo : St (l.set n (SL.blk gc 100 #[.pointer (some ⟨gt, 0, none⟩), .int .i64 0, .int .i64 ((0 : Nat) : Int)])) w0 w7_ := (by have h9 := HSn; (try rw [List.set_set] at h9); exact h9); have HEn : (l.set n (SL.blk gc 100 #[.pointer (some ⟨gt, 0, none⟩), .int .i64 0, .int .i64 ((0 : Nat) : Int)]))[n]? = some (SL.blk gc 100 #[.pointer (some ⟨gt, 0, none⟩), .int .i64 0, .int .i64 ((0 : Nat) : Int)]) := List.getElem?_set_self hlt; replace HS := Go.Lib.hid HSo; replace HE := Go.Lib.hid HEn; clear HSn HSo HEn y0 y1 y2; obtain ⟨y0, y1, y2⟩ := HS.out.c3 n _ _ _ _ _ HE.out))
 go_ret
 exact ⟨rfl, HS.out⟩
set_option maxHeartbeats 6400000 in
set_option maxRecDepth 100000 in
theorem step_3 (h : St l w0 w) (n : Nat) (t : Int) (j : Nat) (e : l[n]? = some (SL.blk gc 100 #[.pointer (some ⟨gt, 0, none⟩), .int .i64 t, .int .i64 (j : Nat)])) (ad : Addr) (c : Nat) (RX : ∀ X, InA (l.set n X) gt id fr rs (some ad) c) (hj : j < rs.length) (hlen : rs.length ≤ 100000) (ht0 : 0 ≤ t) (ht1 : t ≤ 4000000) (hb : 0 ≤ (rd_T44 rs (j : Int)).f1 ∧ (rd_T44 rs (j : Int)).f1 + (rd_T44 rs (j : Int)).f2 ≤ 4000000) (hb2 : 0 ≤ (rd_T44 rs (j : Int)).f2) (c1 : ((rd_T44 rs (j : Int)).f1 + (rd_T44 rs (j : Int)).f2 ≤ t + 1)) (c2 : ¬ (t + 1 < fr)) :
  Calls Try.prog 18 #[.pointer (some ⟨gc, 0, none⟩)] w fun e w' => e = .returned (.bool false) ∧ St (l.set n (SL.blk gc 100 #[.pointer (some ⟨gt, 0, none⟩), .int .i64 0, .int .i64 ((0 : Nat) : Int)])) w0 w' := by
 have hlt : n < l.length := (List.getElem?_eq_some_iff.1 e).1
 have HE := Go.Lib.hid e
 have HS := Go.Lib.hid h
 have HRX := Go.Lib.hid RX
 have HB := Go.Lib.hid (And.intro hb hb2)
 obtain ⟨y0, y1, y2⟩ := h.c3 n _ _ _ _ _ e
 clear h e RX
 have p0 : (0 ≤ (j : Int)) = True := eq_true (by omega)
 have p1 : ((j : Int) < ((rs.length : Nat) : Int)) = True := eq_true (by omega)
 have q0 := HB.out.1.1
 have q1 := HB.out.1.2
 have q2 := HB.out.2
 have d1 : decide ((rd_T44 rs (j : Int)).f1 + (rd_T44 rs (j : Int)).f2 ≤ t + 1) = true := by simpa using c1
 have d2 : decide (t + 1 < fr) = false := by simpa using c2
 clear c1 c2 hb hb2
 go_enter Try.func18, Try.ntmps18
 go_upto_region 2 with ((with_reducible refine gate_store (p := 10) rfl ?_); refine Sl.store_st HS.out n gc 100 _ HE.out 1 (.int .i64 (t + 1)) (by rfl) (by rfl) ?hr ?_; (case hr => have f_ := HS.out.free n _ _ _ HE.out 1; first | (go_simp; done) | (go_simp; rfl)); intro w1_ HSn; have HSo : St (l.set n (SL.blk gc 100 #[.pointer (some ⟨gt, 0, none⟩), .int .i64 (t + 1), .int .i64 ((j : Nat) : Int)])) w0 w1_ := (by have h9 := HSn; (try rw [List.set_set] at h9); exact h9); have HEn : (l.set n (SL.blk gc 100 #[.pointer (some ⟨gt, 0, none⟩), .int .i64 (t + 1), .int .i64 ((j : Nat) : Int)]))[n]? = some (SL.blk gc 100 #[.pointer (some ⟨gt, 0, none⟩), .int .i64 (t + 1), .int .i64 ((j : Nat) : Int)]) := List.getElem?_set_self hlt; replace HS := Go.Lib.hid HSo; replace HE := Go.Lib.hid HEn; clear HSn HSo HEn y0 y1 y2; obtain ⟨y0, y1, y2⟩ := HS.out.c3 n _ _ _ _ _ HE.out)
 clear y0 y1 y2
 replace HS := Go.Lib.hid HS.out.drew
 refine start_ (n := 15) (S := fun w' => (w'.cell? ⟨gc, 0, none⟩ = some (.pointer (some ⟨gt, 0, none⟩)) ∧ w'.cell? ⟨gc, 1, none⟩ = some (.int .i64 (t + 1)) ∧ w'.cell? ⟨gc, 2, none⟩ = some (.int .i64 ((j : Nat) : Int))) ∧ (w'.cell? ⟨gt, 0, none⟩ = some (.int .i64 id) ∧ w'.cell? ⟨gt, 1, none⟩ = some (.int .i64 fr) ∧ w'.cell? ⟨gt, 2, none⟩ = some (.slice (some ad) rs.length c)) ∧ w'.cell? (ad.add (j * 3)) = some (.int .i64 (rd_T44 rs (j : Int)).f0) ∧ w'.cell? ⟨(ad.add (j * 3)).block, (ad.add (j * 3)).off + 1, none⟩ = some (.int .i64 (rd_T44 rs (j : Int)).f1) ∧ w'.cell? ⟨(ad.add (j * 3)).block, (ad.add (j * 3)).off + 2, none⟩ = some (.int .i64 (rd_T44 rs (j : Int)).f2)) (ds := [14]) #[false, false, false, false, false, false, false, false, false, false, false, false, false, false, false] (by kernel_rfl) rfl rfl ⟨HS.out.c3 n _ _ _ _ _ HE.out, (HRX.out _).sees HS.out j hj⟩ (fun hHeld => ?_)
 generalize w1_.drew = W_ at *
 refine pure_ (i := 0) (N := some 11) (v := ?_) (a' := ?_) #[true, false, false, false, false, false, false, false, false, false, false, false, false, false, false] rfl rfl (by kernel_rfl) (fun _ _ _ h => h) (Or.inl ⟨by rfl, ?_⟩) ?_ ?_
 rotate_left
 ·intro w'
  go_simp
  with_reducible rfl
 rotate_left
 ·simp only [Act.put, List.setIfInBounds_toArray, List.set_cons_zero, List.set_cons_succ, i64_w, i32_w]
  rfl
 refine pure_ (i := 1) (N := some 12) (v := ?_) (a' := ?_) #[true, true, false, false, false, false, false, false, false, false, false, false, false, false, false] rfl rfl (by kernel_rfl) (fun _ _ _ h => h) (Or.inl ⟨by rfl, ?_⟩) ?_ ?_
 rotate_left
 ·intro w'
  go_simp
  with_reducible rfl
 rotate_left
 ·simp only [Act.put, List.setIfInBounds_toArray, List.set_cons_zero, List.set_cons_succ, i64_w, i32_w]
  rfl
 refine pure_ (i := 2) (N := some 13) (v := ?_) (a' := ?_) #[true, true, true, false, false, false, false, false, false, false, false, false, false, false, false] rfl rfl (by kernel_rfl) (fun _ _ _ h => h) (Or.inl ⟨by rfl, ?_⟩) ?_ ?_
 rotate_left
 ·intro w'
  go_simp
  with_reducible rfl
 rotate_left
 ·simp only [Act.put, List.setIfInBounds_toArray, List.set_cons_zero, List.set_cons_succ, i64_w, i32_w]
  rfl
 refine pure_ (i := 7) (N := some 18) (v := ?_) (a' := ?_) #[true, true, true, false, false, false, false, true, false, false, false, false, false, false, false] rfl rfl (by kernel_rfl) (fun _ _ _ h => h) (Or.inl ⟨by rfl, ?_⟩) ?_ ?_
 rotate_left
 ·intro w'
  go_simp
  with_reducible rfl
 rotate_left
 ·simp only [Act.put, List.setIfInBounds_toArray, List.set_cons_zero, List.set_cons_succ, i64_w, i32_w]
  rfl
 refine pure_ (i := 8) (N := some 19) (v := ?_) (a' := ?_) #[true, true, true, false, false, false, false, true, true, false, false, false, false, false, false] rfl rfl (by kernel_rfl) (fun _ _ _ h => h) (Or.inl ⟨by rfl, ?_⟩) ?_ ?_
 rotate_left
 ·intro w'
  go_simp
  with_reducible rfl
 rotate_left
 ·simp only [Act.put, List.setIfInBounds_toArray, List.set_cons_zero, List.set_cons_succ, i64_w, i32_w]
  rfl
 refine pure_ (i := 9) (N := some 20) (v := ?_) (a' := ?_) #[true, true, true, false, false, false, false, true, true, true, false, false, false, false, false] rfl rfl (by kernel_rfl) (fun _ _ _ h => h) (Or.inl ⟨by rfl, ?_⟩) ?_ ?_
 rotate_left
 ·intro w'
  go_simp
  with_reducible rfl
 rotate_left
 ·simp only [Act.put, List.setIfInBounds_toArray, List.set_cons_zero, List.set_cons_succ, i64_w, i32_w]
  rfl
 refine take_ (i := 3) (N := some 14) (v := ?_) (a' := ?_) #[true, true, true, true, false, false, false, true, true, true, false, false, false, false, false] rfl rfl (by kernel_rfl) (fun _ _ _ h => h) (Or.inl ⟨by rfl, ?_⟩) hHeld ?_ ?_
 rotate_left
 ·rintro w' ⟨⟨s0, s1, s2⟩, ⟨s3, s4, s5⟩, s6, s7, s8⟩
  go_simp
  with_reducible rfl
 rotate_left
 ·simp only [Act.put, List.setIfInBounds_toArray, List.set_cons_zero, List.set_cons_succ, i64_w, i32_w]
  rfl
 refine pure_ (i := 4) (N := some 15) (v := ?_) (a' := ?_) #[true, true, true, true, true, false, false, true, true, true, false, false, false, false, false] rfl rfl (by kernel_rfl) (fun _ _ _ h => h) (Or.inl ⟨by rfl, ?_⟩) ?_ ?_
 rotate_left
 ·intro w'
  go_simp
  with_reducible rfl
 rotate_left
 ·simp only [Act.put, List.setIfInBounds_toArray, List.set_cons_zero, List.set_cons_succ, i64_w, i32_w]
  rfl
 refine pure_ (i := 5) (N := some 16) (v := ?_) (a' := ?_) #[true, true, true, true, true, true, false, true, true, true, false, false, false, false, false] rfl rfl (by kernel_rfl) (fun _ _ _ h => h) (Or.inl ⟨by rfl, ?_⟩) ?_ ?_
 rotate_left
 ·intro w'
  go_simp
  with_reducible rfl
 rotate_left
 ·simp only [Act.put, List.setIfInBounds_toArray, List.set_cons_zero, List.set_cons_succ, i64_w, i32_w]
  rfl
 refine take_ (i := 6) (N := some 17) (v := ?_) (a' := ?_) #[true, true, true, true, true, true, true, true, true, true, false, false, false, false, false] rfl rfl (by kernel_rfl) (fun _ _ _ h => h) (Or.inl ⟨by rfl, ?_⟩) hHeld ?_ ?_
 rotate_left
 ·rintro w' ⟨⟨s0, s1, s2⟩, ⟨s3, s4, s5⟩, s6, s7, s8⟩
  go_simp
  with_reducible rfl
 rotate_left
 ·simp only [Act.put, List.setIfInBounds_toArray, List.set_cons_zero, List.set_cons_succ, i64_w, i32_w]
  rfl
 refine take_ (i := 10) (N := some 21) (v := ?_) (a' := ?_) #[true, true, true, true, true, true, true, true, true, true, true, false, false, false, false] rfl rfl (by kernel_rfl) (fun _ _ _ h => h) (Or.inl ⟨by rfl, ?_⟩) hHeld ?_ ?_
 rotate_left
 ·rintro w' ⟨⟨s0, s1, s2⟩, ⟨s3, s4, s5⟩, s6, s7, s8⟩
  go_simp
  with_reducible rfl
 rotate_left
 ·simp only [Act.put, List.setIfInBounds_toArray, List.set_cons_zero, List.set_cons_succ, i64_w, i32_w]
  rfl
 refine pure_ (i := 11) (N := some 22) (v := ?_) (a' := ?_) #[true, true, true, true, true, true, true, true, true, true, true, true, false, false, false] rfl rfl (by kernel_rfl) (fun _ _ _ h => h) (Or.inl ⟨by rfl, ?_⟩) ?_ ?_
 rotate_left
 ·intro w'
  go_simp
  with_reducible rfl
 rotate_left
 ·simp only [Act.put, List.setIfInBounds_toArray, List.set_cons_zero, List.set_cons_succ, i64_w, i32_w]
  rfl
 refine take_ (i := 12) (N := some 23) (v := ?_) (a' := ?_) #[true, true, true, true, true, true, true, true, true, true, true, true, true, false, false] rfl rfl (by kernel_rfl) (fun _ _ _ h => h) (Or.inl ⟨by rfl, ?_⟩) hHeld ?_ ?_
 rotate_left
 ·rintro w' ⟨⟨s0, s1, s2⟩, ⟨s3, s4, s5⟩, s6, s7, s8⟩
  go_simp
  with_reducible rfl
 rotate_left
 ·simp only [Act.put, List.setIfInBounds_toArray, List.set_cons_zero, List.set_cons_succ, i64_w, i32_w]
  rfl
 refine one_ (i := 13) (N := some 3) #[true, true, true, true, true, true, true, true, true, true, true, true, true, true, false] rfl rfl (by kernel_rfl) (by decide) (fun K hK => ?_)
 refine Sl.box_stp HS.out (by rfl) (cs := #[.int .i64 0, .int .i64 0, .int .i64 0]) (t := 44) (by first | (go_simp; done) | (go_simp; rfl)) ?_
 intro g3 w11_ HSn hB_
 clear hB_
 have HSb := Go.Lib.hid HSn
 clear HSn
 refine hK.out _ _ ⟨HSb.out.c3 (n + 1) _ _ _ _ _ (by simpa using HE.out), ((HRX.out _).cons _).sees HSb.out j hj⟩ (fun hHeld => ?_)
 clear hK K
 refine norm_ (a' := ?_) ?_ ?_
 rotate_left
 ·show Act.put _ (some 3) _ = _
  simp only [Act.put, List.setIfInBounds_toArray, List.set_cons_zero, List.set_cons_succ, i64_w, i32_w]
  rfl
 refine last_ (i := 14) (N := none) #[true, true, true, true, true, true, true, true, true, true, true, true, true, true, true] rfl rfl (by kernel_rfl) (by decide) (fun K hK => ?_)
 have f_ := HSb.out.f3 0 _ _ _ _ _ rfl
 obtain ⟨f0_, f1_, f2_⟩ := f_
 obtain ⟨k0_, k1_, k2_⟩ := HSb.out.c3 0 _ _ _ _ _ rfl
 refine Sl.storeAll_stp HSb.out 0 g3 44 _ rfl [.int .i64 (rd_T44 rs (j : Int)).f0, .int .i64 (rd_T44 rs (j : Int)).f1, .int .i64 (rd_T44 rs (j : Int)).f2] rfl (by rfl) rfl (by first | (go_simp; done) | (go_simp; rfl)) ?_
 intro w12_ HSm
 clear f0_ f1_ f2_ k0_ k1_ k2_
 refine hK.out _ _ ?_
 clear hK K
 refine done_ (by kernel_rfl) ?_
 have HSk := Go.Lib.hid HSm
 clear HSm
 have e1_ : wrap64 ((rd_T44 rs (j : Int)).f1 + (rd_T44 rs (j : Int)).f2) = (rd_T44 rs (j : Int)).f1 + (rd_T44 rs (j : Int)).f2 := by unfold wrap64; omega
 have e0_ : IntKind.i64.wrap ((rd_T44 rs (j : Int)).f1 + (rd_T44 rs (j : Int)).f2) = (rd_T44 rs (j : Int)).f1 + (rd_T44 rs (j : Int)).f2 := IntWalk.i64_in _ (by omega)
 go_upto_region 3 with (fail)
 replace HSk := Go.Lib.hid HSk.out.drew
 refine start_ (n := 10) (S := fun w' => (w'.cell? ⟨gc, 0, none⟩ = some (.pointer (some ⟨gt, 0, none⟩)) ∧ w'.cell? ⟨gc, 1, none⟩ = some (.int .i64 (t + 1)) ∧ w'.cell? ⟨gc, 2, none⟩ = some (.int .i64 ((j : Nat) : Int))) ∧ (w'.cell? ⟨g3, 0, none⟩ = some (.int .i64 (rd_T44 rs (j : Int)).f0) ∧ w'.cell? ⟨g3, 1, none⟩ = some (.int .i64 (rd_T44 rs (j : Int)).f1) ∧ w'.cell? ⟨g3, 2, none⟩ = some (.int .i64 (rd_T44 rs (j : Int)).f2))) (ds := []) #[false, false, false, false, false, false, false, false, false, false] (by kernel_rfl) rfl rfl ⟨HSk.out.c3 (n + 1) _ _ _ _ _ (by simpa using HE.out), HSk.out.c3 0 _ _ _ _ _ rfl⟩ (fun hHeld => ?_)
 generalize w12_.drew = W3_ at *
 refine pure_ (i := 0) (N := some 24) (v := ?_) (a' := ?_) #[true, false, false, false, false, false, false, false, false, false] rfl rfl (by kernel_rfl) (fun _ _ _ h => h) (Or.inl ⟨by rfl, ?_⟩) ?_ ?_
 rotate_left
 ·intro w'
  go_simp
  with_reducible rfl
 rotate_left
 ·simp only [Act.put, List.setIfInBounds_toArray, List.set_cons_zero, List.set_cons_succ, i64_w, i32_w]
  rfl
 refine pure_ (i := 1) (N := some 25) (v := ?_) (a' := ?_) #[true, true, false, false, false, false, false, false, false, false] rfl rfl (by kernel_rfl) (fun _ _ _ h => h) (Or.inl ⟨by rfl, ?_⟩) ?_ ?_
 rotate_left
 ·intro w'
  go_simp
  with_reducible rfl
 rotate_left
 ·simp only [Act.put, List.setIfInBounds_toArray, List.set_cons_zero, List.set_cons_succ, i64_w, i32_w]
  rfl
 refine pure_ (i := 2) (N := some 26) (v := ?_) (a' := ?_) #[true, true, true, false, false, false, false, false, false, false] rfl rfl (by kernel_rfl) (fun _ _ _ h => h) (Or.inl ⟨by rfl, ?_⟩) ?_ ?_
 rotate_left
 ·intro w'
  go_simp
  with_reducible rfl
 rotate_left
 ·simp only [Act.put, List.setIfInBounds_toArray, List.set_cons_zero, List.set_cons_succ, i64_w, i32_w]
  rfl
 refine pure_ (i := 4) (N := some 28) (v := ?_) (a' := ?_) #[true, true, true, false, true, false, false, false, false, false] rfl rfl (by kernel_rfl) (fun _ _ _ h => h) (Or.inl ⟨by rfl, ?_⟩) ?_ ?_
 rotate_left
 ·intro w'
  go_simp
  with_reducible rfl
 rotate_left
 ·simp only [Act.put, List.setIfInBounds_toArray, List.set_cons_zero, List.set_cons_succ, i64_w, i32_w]
  rfl
 refine pure_ (i := 6) (N := some 30) (v := ?_) (a' := ?_) #[true, true, true, false, true, false, true, false, false, false] rfl rfl (by kernel_rfl) (fun _ _ _ h => h) (Or.inl ⟨by rfl, ?_⟩) ?_ ?_
 rotate_left
 ·intro w'
  go_simp
  with_reducible rfl
 rotate_left
 ·simp only [Act.put, List.setIfInBounds_toArray, List.set_cons_zero, List.set_cons_succ, i64_w, i32_w]
  rfl
 refine take_ (i := 3) (N := some 27) (v := ?_) (a' := ?_) #[true, true, true, true, true, false, true, false, false, false] rfl rfl (by kernel_rfl) (fun _ _ _ h => h) (Or.inl ⟨by rfl, ?_⟩) hHeld ?_ ?_
 rotate_left
 ·rintro w' ⟨⟨s0, s1, s2⟩, s3, s4, s5⟩
  go_simp
  with_reducible rfl
 rotate_left
 ·simp only [Act.put, List.setIfInBounds_toArray, List.set_cons_zero, List.set_cons_succ, i64_w, i32_w]
  rfl
 refine take_ (i := 5) (N := some 29) (v := ?_) (a' := ?_) #[true, true, true, true, true, true, true, false, false, false] rfl rfl (by kernel_rfl) (fun _ _ _ h => h) (Or.inl ⟨by rfl, ?_⟩) hHeld ?_ ?_
 rotate_left
 ·rintro w' ⟨⟨s0, s1, s2⟩, s3, s4, s5⟩
  go_simp
  with_reducible rfl
 rotate_left
 ·simp only [Act.put, List.setIfInBounds_toArray, List.set_cons_zero, List.set_cons_succ, i64_w, i32_w]
  rfl
 refine take_ (i := 7) (N := some 31) (v := ?_) (a' := ?_) #[true, true, true, true, true, true, true, true, false, false] rfl rfl (by kernel_rfl) (fun _ _ _ h => h) (Or.inl ⟨by rfl, ?_⟩) hHeld ?_ ?_
 rotate_left
 ·rintro w' ⟨⟨s0, s1, s2⟩, s3, s4, s5⟩
  go_simp
  with_reducible rfl
 rotate_left
 ·simp only [Act.put, List.setIfInBounds_toArray, List.set_cons_zero, List.set_cons_succ, i64_w, i32_w]
  rfl
 refine pure_ (i := 8) (N := some 32) (v := ?_) (a' := ?_) #[true, true, true, true, true, true, true, true, true, false] rfl rfl (by kernel_rfl) (fun _ _ _ h => h) (Or.inl ⟨by rfl, ?_⟩) ?_ ?_
 rotate_left
 ·intro w'
  go_simp
  with_reducible rfl
 rotate_left
 ·simp only [Act.put, List.setIfInBounds_toArray, List.set_cons_zero, List.set_cons_succ, i64_w, i32_w]
  rfl
 refine pure_ (i := 9) (N := some 33) (v := ?_) (a' := ?_) #[true, true, true, true, true, true, true, true, true, true] rfl rfl (by kernel_rfl) (fun _ _ _ h => h) (Or.inl ⟨by rfl, ?_⟩) ?_ ?_
 rotate_left
 ·intro w'
  go_simp
  with_reducible rfl
 rotate_left
 ·simp only [Act.put, List.setIfInBounds_toArray, List.set_cons_zero, List.set_cons_succ, i64_w, i32_w]
  rfl
 refine done_ (by kernel_rfl) ?_
 replace HS := Go.Lib.hid HSk.out.drop
 clear HSk e0_ e1_
 obtain ⟨y0, y1, y2⟩ := HS.out.c3 n _ _ _ _ _ HE.out
 go_upto_region 5 with ((with_reducible refine gate_store (p := 40) rfl ?_); refine Sl.store_st HS.out n gc 100 _ HE.out 2 (.int .i64 (((j + 1 : Nat) : Nat) : Int)) (by rfl) (by rfl) ?hr ?_; (case hr => have f_ := HS.out.free n _ _ _ HE.out 2; first | (go_simp; done) | (go_simp; rfl)); intro w4_ HSn; have HSo : St (l.set n (SL.blk gc 100 #[.pointer (some ⟨gt, 0, none⟩), .int .i64 (t + 1), .int .i64 (((j + 1 : Nat) : Nat) : Int)])) w0 w4_ := (by have h9 := HSn; (try rw [List.set_set] at h9); exact h9); have HEn : (l.set n (SL.blk gc 100 #[.pointer (some ⟨gt, 0, none⟩), .int .i64 (t + 1), .int .i64 (((j + 1 : Nat) : Nat) : Int)]))[n]? = some (SL.blk gc 100 #[.pointer (some ⟨gt, 0, none⟩), .int .i64 (t + 1), .int .i64 (((j + 1 : Nat) : Nat) : Int)]) := List.getElem?_set_self hlt; replace HS := Go.Lib.hid HSo; replace HE := Go.Lib.hid HEn; clear HSn HSo HEn y0 y1 y2; obtain ⟨y0, y1, y2⟩ := HS.out.c3 n _ _ _ _ _ HE.out)
 clear y0 y1 y2
 replace HS := Go.Lib.hid HS.out.drew
 refine start_ (n := 12) (S := fun w' => (w'.cell? ⟨gc, 0, none⟩ = some (.pointer (some ⟨gt, 0, none⟩)) ∧ w'.cell? ⟨gc, 1, none⟩ = some (.int .i64 (t + 1)) ∧ w'.cell? ⟨gc, 2, none⟩ = some (.int .i64 (((j + 1 : Nat) : Nat) : Int))) ∧ (w'.cell? ⟨gt, 0, none⟩ = some (.int .i64 id) ∧ w'.cell? ⟨gt, 1, none⟩ = some (.int .i64 fr) ∧ w'.cell? ⟨gt, 2, none⟩ = some (.slice (some ad) rs.length c)) ∧ w'.cell? (ad.add (j * 3)) = some (.int .i64 (rd_T44 rs (j : Int)).f0) ∧ w'.cell? ⟨(ad.add (j * 3)).block, (ad.add (j * 3)).off + 1, none⟩ = some (.int .i64 (rd_T44 rs (j : Int)).f1) ∧ w'.cell? ⟨(ad.add (j * 3)).block, (ad.add (j * 3)).off + 2, none⟩ = some (.int .i64 (rd_T44 rs (j : Int)).f2)) (ds := []) #[false, false, false, false, false, false, false, false, false, false, false, false] (by kernel_rfl) rfl rfl ⟨HS.out.c3 n _ _ _ _ _ HE.out, (HRX.out _).sees HS.out j hj⟩ (fun hHeld => ?_)
 generalize w4_.drew = W5_ at *
 refine pure_ (i := 0) (N := some 41) (v := ?_) (a' := ?_) #[true, false, false, false, false, false, false, false, false, false, false, false] rfl rfl (by kernel_rfl) (fun _ _ _ h => h) (Or.inl ⟨by rfl, ?_⟩) ?_ ?_
 rotate_left
 ·intro w'
  go_simp
  with_reducible rfl
 rotate_left
 ·simp only [Act.put, List.setIfInBounds_toArray, List.set_cons_zero, List.set_cons_succ, i64_w, i32_w]
  rfl
 refine pure_ (i := 1) (N := some 42) (v := ?_) (a' := ?_) #[true, true, false, false, false, false, false, false, false, false, false, false] rfl rfl (by kernel_rfl) (fun _ _ _ h => h) (Or.inl ⟨by rfl, ?_⟩) ?_ ?_
 rotate_left
 ·intro w'
  go_simp
  with_reducible rfl
 rotate_left
 ·simp only [Act.put, List.setIfInBounds_toArray, List.set_cons_zero, List.set_cons_succ, i64_w, i32_w]
  rfl
 refine pure_ (i := 2) (N := some 43) (v := ?_) (a' := ?_) #[true, true, true, false, false, false, false, false, false, false, false, false] rfl rfl (by kernel_rfl) (fun _ _ _ h => h) (Or.inl ⟨by rfl, ?_⟩) ?_ ?_
 rotate_left
 ·intro w'
  go_simp
  with_reducible rfl
 rotate_left
 ·simp only [Act.put, List.setIfInBounds_toArray, List.set_cons_zero, List.set_cons_succ, i64_w, i32_w]
  rfl
 refine pure_ (i := 4) (N := some 45) (v := ?_) (a' := ?_) #[true, true, true, false, true, false, false, false, false, false, false, false] rfl rfl (by kernel_rfl) (fun _ _ _ h => h) (Or.inl ⟨by rfl, ?_⟩) ?_ ?_
 rotate_left
 ·intro w'
  go_simp
  with_reducible rfl
 rotate_left
 ·simp only [Act.put, List.setIfInBounds_toArray, List.set_cons_zero, List.set_cons_succ, i64_w, i32_w]
  rfl
 refine pure_ (i := 5) (N := some 46) (v := ?_) (a' := ?_) #[true, true, true, false, true, true, false, false, false, false, false, false] rfl rfl (by kernel_rfl) (fun _ _ _ h => h) (Or.inl ⟨by rfl, ?_⟩) ?_ ?_
 rotate_left
 ·intro w'
  go_simp
  with_reducible rfl
 rotate_left
 ·simp only [Act.put, List.setIfInBounds_toArray, List.set_cons_zero, List.set_cons_succ, i64_w, i32_w]
  rfl
 refine pure_ (i := 6) (N := some 47) (v := ?_) (a' := ?_) #[true, true, true, false, true, true, true, false, false, false, false, false] rfl rfl (by kernel_rfl) (fun _ _ _ h => h) (Or.inl ⟨by rfl, ?_⟩) ?_ ?_
 rotate_left
 ·intro w'
  go_simp
  with_reducible rfl
 rotate_left
 ·simp only [Act.put, List.setIfInBounds_toArray, List.set_cons_zero, List.set_cons_succ, i64_w, i32_w]
  rfl
 refine take_ (i := 3) (N := some 44) (v := ?_) (a' := ?_) #[true, true, true, true, true, true, true, false, false, false, false, false] rfl rfl (by kernel_rfl) (fun _ _ _ h => h) (Or.inl ⟨by rfl, ?_⟩) hHeld ?_ ?_
 rotate_left
 ·rintro w' ⟨⟨s0, s1, s2⟩, ⟨s3, s4, s5⟩, s6, s7, s8⟩
  go_simp
  with_reducible rfl
 rotate_left
 ·simp only [Act.put, List.setIfInBounds_toArray, List.set_cons_zero, List.set_cons_succ, i64_w, i32_w]
  rfl
 refine take_ (i := 7) (N := some 48) (v := ?_) (a' := ?_) #[true, true, true, true, true, true, true, true, false, false, false, false] rfl rfl (by kernel_rfl) (fun _ _ _ h => h) (Or.inl ⟨by rfl, ?_⟩) hHeld ?_ ?_
 rotate_left
 ·rintro w' ⟨⟨s0, s1, s2⟩, ⟨s3, s4, s5⟩, s6, s7, s8⟩
  go_simp
  with_reducible rfl
 rotate_left
 ·simp only [Act.put, List.setIfInBounds_toArray, List.set_cons_zero, List.set_cons_succ, i64_w, i32_w]
  rfl
 refine pure_ (i := 8) (N := some 49) (v := ?_) (a' := ?_) #[true, true, true, true, true, true, true, true, true, false, false, false] rfl rfl (by kernel_rfl) (fun _ _ _ h => h) (Or.inl ⟨by rfl, ?_⟩) ?_ ?_
 rotate_left
 ·intro w'
  go_simp
  with_reducible rfl
 rotate_left
 ·simp only [Act.put, List.setIfInBounds_toArray, List.set_cons_zero, List.set_cons_succ, i64_w, i32_w]
  rfl
 refine pure_ (i := 9) (N := some 50) (v := ?_) (a' := ?_) #[true, true, true, true, true, true, true, true, true, true, false, false] rfl rfl (by kernel_rfl) (fun _ _ _ h => h) (Or.inl ⟨by rfl, ?_⟩) ?_ ?_
 rotate_left
 ·intro w'
  go_simp
  with_reducible rfl
 rotate_left
 ·simp only [Act.put, List.setIfInBounds_toArray, List.set_cons_zero, List.set_cons_succ, i64_w, i32_w]
  rfl
 refine take_ (i := 10) (N := some 51) (v := ?_) (a' := ?_) #[true, true, true, true, true, true, true, true, true, true, true, false] rfl rfl (by kernel_rfl) (fun _ _ _ h => h) (Or.inl ⟨by rfl, ?_⟩) hHeld ?_ ?_
 rotate_left
 ·rintro w' ⟨⟨s0, s1, s2⟩, ⟨s3, s4, s5⟩, s6, s7, s8⟩
  go_simp
  with_reducible rfl
 rotate_left
 ·simp only [Act.put, List.setIfInBounds_toArray, List.set_cons_zero, List.set_cons_succ, i64_w, i32_w]
  rfl
 refine pure_ (i := 11) (N := some 52) (v := ?_) (a' := ?_) #[true, true, true, true, true, true, true, true, true, true, true, true] rfl rfl (by kernel_rfl) (fun _ _ _ h => h) (Or.inl ⟨by rfl, ?_⟩) ?_ ?_
 rotate_left
 ·intro w'
  go_simp
  with_reducible rfl
 rotate_left
 ·simp only [Act.put, List.setIfInBounds_toArray, List.set_cons_zero, List.set_cons_succ, i64_w, i32_w]
  rfl
 refine done_ (by kernel_rfl) ?_
 obtain ⟨y0, y1, y2⟩ := HS.out.c3 n _ _ _ _ _ HE.out
 go_wp2_with (first | ((with_reducible refine gate_store (p := 56) rfl ?_); refine Sl.store_st HS.out n gc 100 _ HE.out 1 (.int .i64 0) (by rfl) (by rfl) ?hr ?_; (case hr => have f_ := HS.out.free n _ _ _ HE.out 1; first | (go_simp; done) | (go_simp; rfl)); intro w6_ HSn; have HSo : St (l.set n (SL.blk gc 100 #[.pointer (some ⟨gt, 0, none⟩), .int .i64 0, .int .i64 (((j + 1 : Nat) : Nat) : Int)])) w0 w6_ := (by have h9 := HSn; (try rw [List.set_set] at h9); exact h9); have HEn : (l.set n (SL.blk gc 100 #[.pointer (some ⟨gt, 0, none⟩), .int .i64 0, .int .i64 (((j + 1 : Nat) : Nat) : Int)]))[n]? = some (SL.blk gc 100 #[.pointer (some ⟨gt, 0, none⟩), .int .i64 0, .int .i64 (((j + 1 : Nat) : Nat) : Int)]) := List.getElem?_set_self hlt; replace HS := Go.Lib.hid HSo; replace HE := Go.Lib.hid HEn; clear HSn HSo HEn y0 y1 y2; obtain ⟨y0, y1, y2⟩ := HS.out.c3 n _ _ _ _ _ HE.out) | ((with_reducible refine gate_store (p := 58) rfl ?_); refine Sl.store_st HS.out n gc 100 _ HE.out 2 (.int .i64 0) (by rfl) (by rfl) ?hr ?_; (case hr => have f_ := HS.out.free n _ _ _ HE.out 2; first | (go_simp; done) | (go_simp; rfl)); intro w7_ HSn; have HSo : St (l.set n (SL.blk gc 100 #[.pointer (some ⟨gt, 0, none⟩), .int .i64 0, .int .i64 ((0 : Nat) : Int)])) w0 w7_ := (by have h9 := HSn; (try rw [List.set_set] at h9); exact h9); have HEn : (l.set n (SL.blk gc 100 #[.pointer (some ⟨gt, 0, none⟩), .int .i64 0, .int .i64 ((0 : Nat) : Int)]))[n]? = some (SL.blk gc 100 #[.pointer (some ⟨gt, 0, none⟩), .int .i64 0, .int .i64 ((0 : Nat) : Int)]) := List.getElem?_set_self hlt; replace HS := Go.Lib.hid HSo; replace HE := Go.Lib.hid HEn; clear HSn HSo HEn y0 y1 y2; obtain ⟨y0, y1, y2⟩ := HS.out.c3 n _ _ _ _ _ HE.out))
 go_ret
 exact ⟨rfl, HS.out⟩
theorem step_st (h : St l w0 w) (n : Nat) (t : Int) (j : Nat) (e : l[n]? = some (SL.blk gc 100 #[.pointer (some ⟨gt, 0, none⟩), .int .i64 t, .int .i64 (j : Nat)])) (ad : Addr) (c : Nat) (RX : ∀ X, InA (l.set n X) gt id fr rs (some ad) c) (hj : j < rs.length) (hlen : rs.length ≤ 100000) (ht0 : 0 ≤ t) (ht1 : t ≤ 4000000) (hb : 0 ≤ (rd_T44 rs (j : Int)).f1 ∧ (rd_T44 rs (j : Int)).f1 + (rd_T44 rs (j : Int)).f2 ≤ 4000000) (hb2 : 0 ≤ (rd_T44 rs (j : Int)).f2) :
  Calls Try.prog 18 #[.pointer (some ⟨gc, 0, none⟩)] w fun e w' => e = .returned (.bool (decide (t + 1 < fr))) ∧ St (l.set n (SL.blk gc 100 #[.pointer (some ⟨gt, 0, none⟩), .int .i64 (nextT fr t), .int .i64 ((nextJ rs fr t j : Nat) : Int)])) w0 w' := by
 unfold nextT nextJ
 by_cases c2 : t + 1 < fr
 ·rw [if_pos c2, if_pos c2, decide_eq_true c2]
  by_cases c1 : (rd_T44 rs (j : Int)).f1 + (rd_T44 rs (j : Int)).f2 ≤ t + 1
  ·rw [if_neg (by omega)]; exact step_1 h n t j e ad c RX hj hlen ht0 ht1 hb hb2 c1 c2
  ·rw [if_pos (by omega)]; exact step_0 h n t j e ad c RX hj hlen ht0 ht1 hb hb2 c1 c2
 ·rw [if_neg c2, if_neg c2, decide_eq_false c2]
  by_cases c1 : (rd_T44 rs (j : Int)).f1 + (rd_T44 rs (j : Int)).f2 ≤ t + 1
  ·exact step_3 h n t j e ad c RX hj hlen ht0 ht1 hb hb2 c1 c2
  ·exact step_2 h n t j e ad c RX hj hlen ht0 ht1 hb hb2 c1 c2
end Go.Proofs.Ytnpjbdaaoknkbaa.Tab
