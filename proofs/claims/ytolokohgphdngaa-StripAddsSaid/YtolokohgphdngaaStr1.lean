/- Strips in owned memory. -/
import Derived.Test.YtolokohgphdngaaPStripAddsx3
import Derived.Test.YtolokohgphdngaaSlf
import Derived.Test.YtolokohgphdngaaSlm
namespace Go.Proofs.Ytolokohgphdngaa.Str
open Go.RowKit Go.Proofs.YtolokohgphdngaaW.PrintWords Go.Proofs.YtolokohgphdngaaW.PrintLast Go.Proofs.YtolokohgphdngaaW.PrintMore Go.Proofs.Ytolokohgphdngaa.Mine Go.Proofs.Ytolokohgphdngaa.PStripAdds
open Go.Proofs.Ytolokohgphdngaa.Sl (SL Stp Chg St No)
set_option linter.unusedVariables false
set_option linter.unusedSimpArgs false
attribute [local go_sem] max2_int min2_int max_two min_two max_three min_three max_four min_four
variable {l : List SL} {w0 w : World} {g : Nat} {rs : List S95}
/-- Behind each row, how many ticks. -/
def endsFrom (a : Int) : List S95 → List Int
  | [] => []
  | r :: l => (a + r.f1) :: endsFrom (a + r.f1) l
def ends (rs : List S95) : List Int := endsFrom 0 rs
def total (rs : List S95) : Int := (rs.map S95.f1).sum
theorem endsFrom_len : ∀ (rs : List S95) (a : Int), (endsFrom a rs).length = rs.length
  | [], a => rfl
  | r :: l, a => by simp [endsFrom, endsFrom_len l]
theorem ends_len (rs : List S95) : (ends rs).length = rs.length := endsFrom_len rs 0
theorem endsFrom_app : ∀ (rs qs : List S95) (a : Int), endsFrom a (rs ++ qs) = endsFrom a rs ++ endsFrom (a + total rs) qs
  | [], qs, a => by simp [endsFrom, total]
  | r :: l, qs, a => by
    simp only [List.cons_append, endsFrom, endsFrom_app l qs]
    rw [show a + r.f1 + total l = a + total (r :: l) by simp only [total, List.map_cons, List.sum_cons]; omega]
theorem ends_snoc (rs : List S95) (r : S95) : ends (rs ++ [r]) = ends rs ++ [total rs + r.f1] := by
  unfold ends
  rw [endsFrom_app]
  simp [endsFrom]
theorem total_snoc (rs : List S95) (r : S95) : total (rs ++ [r]) = total rs + r.f1 := by simp [total]
/-- The last end is the total. -/
theorem ends_last (rs : List S95) (r : S95) : rd (ends (rs ++ [r])) ((rs.length : Nat) : Int) = total (rs ++ [r]) := by
  rw [ends_snoc, total_snoc]
  unfold rd
  rw [Int.toNat_natCast, List.getD_eq_getElem?_getD, List.getElem?_append_right (by rw [ends_len]; exact Nat.le_refl _), ends_len, Nat.sub_self]
  rfl
/-- A strip's rows may be. -/
structure Oks (rs : List S95) : Prop where
  pos : ∀ r ∈ rs, 1 ≤ r.f1
  top : total rs ≤ 1073741824
theorem total_ge : ∀ {rs : List S95}, (∀ r ∈ rs, 1 ≤ r.f1) → (rs.length : Int) ≤ total rs
  | [], _ => by simp [total]
  | r :: l, h => by
    have h1 := h r (by simp)
    have h2 := total_ge (rs := l) (fun x hx => h x (by simp [hx]))
    simp only [total, List.map_cons, List.sum_cons, List.length_cons] at h2 ⊢
    omega
theorem Oks.len (h : Oks rs) : (rs.length : Int) ≤ 1073741824 := Int.le_trans (total_ge h.pos) h.top
theorem Oks.t0 (h : Oks rs) : 0 ≤ total rs := by have := total_ge h.pos; omega
/-- A strip in block g. -/
def stp (g : Nat) (rs : List S95) : SL := SL.ex fun p : (Option Addr × Nat) × Option Addr × Nat => SL.star (SL.blk g 147 #[.slice p.1.1 rs.length p.1.2, .slice p.2.1 (ends rs).length p.2.2]) (SL.star (SL.row k95 95 (.slice p.1.1 rs.length p.1.2) rs) (SL.row (Kd.int .i64) 3 (.slice p.2.1 (ends rs).length p.2.2) (ends rs)))
theorem open_stp (h : St (stp g rs :: l) w0 w) : ∃ A c B d, St (SL.blk g 147 #[.slice A rs.length c, .slice B (ends rs).length d] :: SL.row k95 95 (.slice A rs.length c) rs :: SL.row (Kd.int .i64) 3 (.slice B (ends rs).length d) (ends rs) :: l) w0 w := by
  obtain ⟨⟨⟨A, c⟩, B, d⟩, h⟩ := h.unex
  exact ⟨A, c, B, d, (h.part.front 1 _ rfl).part.front 2 _ rfl⟩
theorem shut_stp {A B : Option Addr} {c d : Nat} (h : St (SL.blk g 147 #[.slice A rs.length c, .slice B (ends rs).length d] :: SL.row k95 95 (.slice A rs.length c) rs :: SL.row (Kd.int .i64) 3 (.slice B (ends rs).length d) (ends rs) :: l) w0 w) : St (stp g rs :: l) w0 w :=
  St.mkex ((A, c), B, d) ((((h.front 2 _ rfl).front 2 _ rfl).pair.front 1 _ rfl).pair)
set_option maxRecDepth 100000 in
theorem new_st (h : St l w0 w) : Calls Try.prog 35 #[] w fun e w' => ∃ g, e = .returned (.pointer (some ⟨g, 0, none⟩)) ∧ St (stp g [] :: l) w0 w' := by
  have HS := Go.Lib.hid h
  clear h
  go_enter Try.func35, Try.ntmps35
  go_wp2_with (first | ((with_reducible refine gate_dst (N := 2) rfl ?_); refine Sl.box_st HS.out (by rfl) (cs := #[.slice none 0 0, .slice none 0 0]) (t := 147) ?hr ?_; (case hr => first | (go_simp; done) | (go_simp; rfl)); intro g w1_ HSn HBn; clear HBn; replace HS : Hid (St (SL.blk g 147 #[.slice none 0 0, .slice none 0 0] :: l) w0 w1_) := Go.Lib.hid HSn; clear HSn; obtain ⟨c0_0, c0_1⟩ := HS.out.c2 0 _ _ _ _ rfl))
  go_ret
  exact ⟨_, rfl, shut_stp (A := none) (c := 0) (B := none) (d := 0) (((HS.out.nilrow (Kd.int .i64) 3).nilrow k95 95).front 2 _ rfl)⟩
theorem ends_end (h : rs ≠ []) : rd (ends rs) ((rs.length - 1 : Nat) : Int) = total rs := by
  have e := List.dropLast_concat_getLast h
  have hl : rs.length - 1 = rs.dropLast.length := by simp
  rw [hl]
  have := ends_last rs.dropLast (rs.getLast h)
  rw [e] at this
  exact this
set_option maxHeartbeats 1600000 in
set_option maxRecDepth 100000 in
theorem len_raw {A B : Option Addr} {c d : Nat} (h : St (SL.blk g 147 #[.slice A rs.length c, .slice B (ends rs).length d] :: SL.row k95 95 (.slice A rs.length c) rs :: SL.row (Kd.int .i64) 3 (.slice B (ends rs).length d) (ends rs) :: l) w0 w) (hk : Oks rs) : Calls Try.prog 45 #[.pointer (some ⟨g, 0, none⟩)] w fun e w' => e = .returned (.int .i64 (total rs)) ∧ Drawn0 w w' := by
  have hlen := hk.len
  have HS := Go.Lib.hid h
  clear h
  obtain ⟨c0, c1⟩ := HS.out.c2 0 _ _ _ _ rfl
  by_cases hz : rs = []
  · subst hz
    go_enter Try.func45, Try.ntmps45
    go_wp2_with fail
    go_ret
    exact ⟨rfl, Drawn0.refl _⟩
  · have hpos : 0 < rs.length := List.length_pos_iff.2 hz
    obtain ⟨_, _, hv, _, hC⟩ := HS.out.rowC 2 rfl
    injection hv with q1 _ q3
    subst q1 q3
    have hel := ends_len rs
    obtain ⟨ad, rfl, gl⟩ := Kd.at_int hC ((rs.length - 1 : Nat) : Int) (by omega) (by omega)
    rw [Int.toNat_natCast, ends_end hz] at gl
    have hne : (((ends rs).length : Int) == 0) = false := by rw [beq_eq_false_iff_ne]; omega
    obtain ⟨m, hm⟩ : ∃ m, m = rs.length - 1 := ⟨_, rfl⟩
    rw [← hm] at gl
    have hw : wrap64 (((ends rs).length : Int) - 1) = (m : Int) := by unfold wrap64; omega
    have p0 : (0 ≤ (m : Int)) = True := eq_true (by omega)
    have p1 : ((m : Int) < ((ends rs).length : Int)) = True := eq_true (by omega)
    clear hC hel hlen hz hm hpos
    go_enter Try.func45, Try.ntmps45
    go_wp2_with fail
    clear c0 c1
    replace HS := Go.Lib.hid HS.out.drew
    replace gl := (show w.drew.cell? (ad.add m) = some (.int .i64 (total rs)) from gl)
    refine start_ (n := 13) (S := fun w' => w'.cell? ⟨g, 1, none⟩ = some (.slice (some ad) (ends rs).length d) ∧ w'.cell? (ad.add m) = some (.int .i64 (total rs))) (ds := []) #[false, false, false, false, false, false, false, false, false, false, false, false, false] (by kernel_rfl) rfl rfl ⟨(HS.out.c2 0 _ _ _ _ rfl).2, gl⟩ (fun hHeld => ?_)
    generalize hdr : w.drew = W_ at *
    have HDR := Go.Lib.hid hdr
    clear hdr
    refine pure_ (i := 0) (N := some 9) (v := ?_) (a' := ?_) #[true, false, false, false, false, false, false, false, false, false, false, false, false] rfl rfl (by kernel_rfl) (fun _ _ _ h => h) (Or.inl ⟨by rfl, ?_⟩) ?_ ?_
    rotate_left
    · intro w'
      go_simp
      with_reducible rfl
    rotate_left
    · simp only [Act.put, List.setIfInBounds_toArray, List.set_cons_zero, List.set_cons_succ, i64_w, i32_w]
      rfl
    refine pure_ (i := 1) (N := some 10) (v := ?_) (a' := ?_) #[true, true, false, false, false, false, false, false, false, false, false, false, false] rfl rfl (by kernel_rfl) (fun _ _ _ h => h) (Or.inl ⟨by rfl, ?_⟩) ?_ ?_
    rotate_left
    · intro w'
      go_simp
      with_reducible rfl
    rotate_left
    · simp only [Act.put, List.setIfInBounds_toArray, List.set_cons_zero, List.set_cons_succ, i64_w, i32_w]
      rfl
    refine pure_ (i := 2) (N := some 11) (v := ?_) (a' := ?_) #[true, true, true, false, false, false, false, false, false, false, false, false, false] rfl rfl (by kernel_rfl) (fun _ _ _ h => h) (Or.inl ⟨by rfl, ?_⟩) ?_ ?_
    rotate_left
    · intro w'
      go_simp
      with_reducible rfl
    rotate_left
    · simp only [Act.put, List.setIfInBounds_toArray, List.set_cons_zero, List.set_cons_succ, i64_w, i32_w]
      rfl
    refine pure_ (i := 4) (N := some 13) (v := ?_) (a' := ?_) #[true, true, true, false, true, false, false, false, false, false, false, false, false] rfl rfl (by kernel_rfl) (fun _ _ _ h => h) (Or.inl ⟨by rfl, ?_⟩) ?_ ?_
    rotate_left
    · intro w'
      go_simp
      with_reducible rfl
    rotate_left
    · simp only [Act.put, List.setIfInBounds_toArray, List.set_cons_zero, List.set_cons_succ, i64_w, i32_w]
      rfl
    refine pure_ (i := 5) (N := some 14) (v := ?_) (a' := ?_) #[true, true, true, false, true, true, false, false, false, false, false, false, false] rfl rfl (by kernel_rfl) (fun _ _ _ h => h) (Or.inl ⟨by rfl, ?_⟩) ?_ ?_
    rotate_left
    · intro w'
      go_simp
      with_reducible rfl
    rotate_left
    · simp only [Act.put, List.setIfInBounds_toArray, List.set_cons_zero, List.set_cons_succ, i64_w, i32_w]
      rfl
    refine pure_ (i := 6) (N := some 15) (v := ?_) (a' := ?_) #[true, true, true, false, true, true, true, false, false, false, false, false, false] rfl rfl (by kernel_rfl) (fun _ _ _ h => h) (Or.inl ⟨by rfl, ?_⟩) ?_ ?_
    rotate_left
    · intro w'
      go_simp
      with_reducible rfl
    rotate_left
    · simp only [Act.put, List.setIfInBounds_toArray, List.set_cons_zero, List.set_cons_succ, i64_w, i32_w]
      rfl
    refine take_ (i := 3) (N := some 12) (v := ?_) (a' := ?_) #[true, true, true, true, true, true, true, false, false, false, false, false, false] rfl rfl (by kernel_rfl) (fun _ _ _ h => h) (Or.inl ⟨by rfl, ?_⟩) hHeld ?_ ?_
    rotate_left
    · rintro w' ⟨s0, s1⟩
      go_simp
      with_reducible rfl
    rotate_left
    · simp only [Act.put, List.setIfInBounds_toArray, List.set_cons_zero, List.set_cons_succ, i64_w, i32_w]
      rfl
    refine take_ (i := 7) (N := some 16) (v := ?_) (a' := ?_) #[true, true, true, true, true, true, true, true, false, false, false, false, false] rfl rfl (by kernel_rfl) (fun _ _ _ h => h) (Or.inl ⟨by rfl, ?_⟩) hHeld ?_ ?_
    rotate_left
    · rintro w' ⟨s0, s1⟩
      go_simp
      with_reducible rfl
    rotate_left
    · simp only [Act.put, List.setIfInBounds_toArray, List.set_cons_zero, List.set_cons_succ, i64_w, i32_w]
      rfl
    refine pure_ (i := 8) (N := some 17) (v := ?_) (a' := ?_) #[true, true, true, true, true, true, true, true, true, false, false, false, false] rfl rfl (by kernel_rfl) (fun _ _ _ h => h) (Or.inl ⟨by rfl, ?_⟩) ?_ ?_
    rotate_left
    · intro w'
      go_simp
      with_reducible rfl
    rotate_left
    · simp only [Act.put, List.setIfInBounds_toArray, List.set_cons_zero, List.set_cons_succ, i64_w, i32_w]
      rfl
    refine pure_ (i := 9) (N := some 18) (v := ?_) (a' := ?_) #[true, true, true, true, true, true, true, true, true, true, false, false, false] rfl rfl (by kernel_rfl) (fun _ _ _ h => h) (Or.inl ⟨by rfl, ?_⟩) ?_ ?_
    rotate_left
    · intro w'
      go_simp
      with_reducible rfl
    rotate_left
    · simp only [Act.put, List.setIfInBounds_toArray, List.set_cons_zero, List.set_cons_succ, i64_w, i32_w]
      rfl
    refine pure_ (i := 10) (N := some 19) (v := ?_) (a' := ?_) #[true, true, true, true, true, true, true, true, true, true, true, false, false] rfl rfl (by kernel_rfl) (fun _ _ _ h => h) (Or.inl ⟨by rfl, ?_⟩) ?_ ?_
    rotate_left
    · intro w'
      go_simp
      with_reducible rfl
    rotate_left
    · simp only [Act.put, List.setIfInBounds_toArray, List.set_cons_zero, List.set_cons_succ, i64_w, i32_w]
      rfl
    refine take_ (i := 11) (N := some 20) (v := ?_) (a' := ?_) #[true, true, true, true, true, true, true, true, true, true, true, true, false] rfl rfl (by kernel_rfl) (fun _ _ _ h => h) (Or.inl ⟨by rfl, ?_⟩) hHeld ?_ ?_
    rotate_left
    · rintro w' ⟨s0, s1⟩
      go_simp
      with_reducible rfl
    rotate_left
    · simp only [Act.put, List.setIfInBounds_toArray, List.set_cons_zero, List.set_cons_succ, i64_w, i32_w]
      rfl
    refine pure_ (i := 12) (N := some 2) (v := ?_) (a' := ?_) #[true, true, true, true, true, true, true, true, true, true, true, true, true] rfl rfl (by kernel_rfl) (fun _ _ _ h => h) (Or.inl ⟨by rfl, ?_⟩) ?_ ?_
    rotate_left
    · intro w'
      go_simp
      with_reducible rfl
    rotate_left
    · simp only [Act.put, List.setIfInBounds_toArray, List.set_cons_zero, List.set_cons_succ, i64_w, i32_w]
      rfl
    refine done_ (by kernel_rfl) ?_
    go_wp2_with fail
    go_ret
    exact ⟨rfl, by rw [← HDR.out]; first | exact ⟨1, rfl⟩ | exact ⟨⟨1, rfl⟩⟩⟩
theorem len_st (h : St l w0 w) (k : Nat) (e : l[k]? = some (stp g rs)) (hk : Oks rs) : Calls Try.prog 45 #[.pointer (some ⟨g, 0, none⟩)] w fun e w' => e = .returned (.int .i64 (total rs)) ∧ St l w0 w' := by
  obtain ⟨A, c, B, d, hS⟩ := open_stp (h.front k _ e)
  exact (len_raw hS hk).mono fun _ _ ⟨he, hd⟩ => ⟨he, h.drawn hd⟩
end Go.Proofs.Ytolokohgphdngaa.Str
