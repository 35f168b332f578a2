/- Ticks are added to the last row. -/
import Derived.Test.YtolokohgphdngaaStr2
namespace Go.Proofs.Ytolokohgphdngaa.Str
open Go.RowKit Go.Proofs.YtolokohgphdngaaW.PrintWords Go.Proofs.YtolokohgphdngaaW.PrintLast Go.Proofs.YtolokohgphdngaaW.PrintMore Go.Proofs.Ytolokohgphdngaa.Mine Go.Proofs.Ytolokohgphdngaa.PStripAdds
open Go.Proofs.Ytolokohgphdngaa.Sl (SL Stp Chg St No)
set_option linter.unusedVariables false
set_option linter.unusedSimpArgs false
attribute [local go_sem] max2_int min2_int max_two min_two max_three min_three max_four min_four
variable {l : List SL} {w0 w : World} {g : Nat} {rs : List S95}
theorem last_rd {pre : List S95} {r : S95} (z : S95) : (pre ++ [r]).getD ((pre ++ [r]).length - 1) z = r := by simp
theorem set_last {α : Type} (pre : List α) (r x : α) : (pre ++ [r]).set ((pre ++ [r]).length - 1) x = pre ++ [x] := by simp
theorem ends_set (pre : List S95) (r : S95) (n : Int) : (ends (pre ++ [r])).set ((pre ++ [r]).length - 1) (total (pre ++ [r]) + n) = ends (pre ++ [⟨r.f0, r.f1 + n⟩]) := by
  rw [ends_snoc, ends_snoc, total_snoc]
  have : (pre ++ [r]).length - 1 = (ends pre).length := by rw [ends_len]; simp
  rw [this, List.set_append_right _ _ (Nat.le_refl _), Nat.sub_self]
  simp
  omega
set_option maxHeartbeats 6400000 in
set_option maxRecDepth 100000 in
theorem add_same {pre : List S95} {r : S95} (h : St (stp g rs :: l) w0 w) (hrs : rs = pre ++ [r]) (hk : Oks rs) (n : Int) (hn : 0 < n) (hm : n ≤ 1073741824 - total rs) : Calls Try.prog 37 #[.pointer (some ⟨g, 0, none⟩), .int .i64 r.f0, .int .i64 n] w fun e w' => e = .returned (.bool true) ∧ St (stp g (pre ++ [⟨r.f0, r.f1 + n⟩]) :: l) w0 w' := by
  obtain ⟨A, c, B, d, hS⟩ := open_stp h
  have hlen := hk.len
  have hel := ends_len rs
  have ht0 := hk.t0
  have ht1 := hk.top
  clear h
  have HS := Go.Lib.hid hS
  clear hS
  obtain ⟨c0, c1⟩ := HS.out.c2 0 _ _ _ _ rfl
  have d0 : decide (n < 0) = false := by simp; omega
  have d1 : decide (1073741824 - total rs < n) = false := by simp; omega
  have d2 : (n == 0) = false := by rw [beq_eq_false_iff_ne]; omega
  have hpos : 0 < rs.length := by rw [hrs]; simp
  have d3 : 1 ≤ (rs.length : Int) := by omega
  have hi0 : (0 : Int) ≤ ((rs.length - 1 : Nat) : Int) := by omega
  have hi1 : ((rs.length - 1 : Nat) : Int) < rs.length := by omega
  have hi2 : ((rs.length - 1 : Nat) : Int) < ((ends rs).length : Int) := by omega
  have hlr : rs.getD (rs.length - 1) z95 = r := by rw [hrs]; exact last_rd z95
  have her : rd (ends rs) ((rs.length - 1 : Nat) : Int) = total rs := ends_end (by rw [hrs]; simp)
  have hset : rs.set (rs.length - 1) ⟨r.f0, r.f1 + n⟩ = pre ++ [⟨r.f0, r.f1 + n⟩] := by rw [hrs]; exact set_last pre r _
  have hes : (ends rs).set (rs.length - 1) (total rs + n) = ends (pre ++ [⟨r.f0, r.f1 + n⟩]) := by rw [hrs]; exact ends_set pre r n
  have hrn : 1 ≤ r.f1 ∧ r.f1 ≤ 1073741824 := by
    have h1 := hk.pos r (by rw [hrs]; simp)
    have h2 := hk.top
    have h3 := total_ge (rs := pre) (fun x hx => hk.pos x (by rw [hrs]; simp [hx]))
    rw [hrs, total_snoc] at h2
    exact ⟨h1, by omega⟩
  obtain ⟨b, cap, cc, hv, hcl, ⟨_, _, hM⟩, hcc, hfz, _⟩ := HS.out.putSeg (flat_iso (flat_pair (flat_int .i64) (flat_int .i64))) 1 rfl z95 ((rs.length - 1 : Nat) : Int) hi0 hi1
  rw [Int.toNat_natCast, hlr] at hM
  have hcc2 := k95_openM hM
  subst hcc2
  injection hv with q1 _ q3
  subst q1 q3
  obtain ⟨b2, cap2, hv2, _, hc2, _, _⟩ := HS.out.put 2 rfl ((rs.length - 1 : Nat) : Int) hi0 hi2
  injection hv2 with q1 _ q3
  subst q1 q3
  have gl := hcc 0 _ rfl
  rw [Int.toNat_natCast] at gl
  replace gl : w.cell? ⟨b, (rs.length - 1) * 2, none⟩ = some (.int .i64 r.f0) := gl
  have d4 : (r.f0 == r.f0) = true := by simp
  have HEL := Go.Lib.hid hel
  have HLR := Go.Lib.hid hlr
  have HER := Go.Lib.hid her
  have HSET := Go.Lib.hid hset
  have HES := Go.Lib.hid hes
  have HI2 := Go.Lib.hid hi2
  have HRS := Go.Lib.hid hrs
  clear hM hcl hcc hfz hc2 hel hlr her hset hes hi2 hrs hpos
  go_enter Try.func37, Try.ntmps37
  go_upto_region 8 with (go_at_call 45; refine (len_raw HS.out hk).mono ?_; rintro e w91 ⟨rfl, hD⟩; replace HS := Go.Lib.hid (HS.out.drawn hD); have gl2 : w91.cell? ⟨b, (rs.length - 1) * 2, none⟩ = some (.int .i64 r.f0) := (by obtain ⟨q_, hq_⟩ := hD.out; rw [hq_]; exact gl); clear hD c0 c1 gl; have gl := gl2; clear gl2; obtain ⟨c0, c1⟩ := HS.out.c2 0 _ _ _ _ rfl)
  clear gl
  obtain ⟨b', cap', cc, hv, hcl, ⟨_, _, hM⟩, hcc, hfz, hput⟩ := HS.out.putSeg (flat_iso (flat_pair (flat_int .i64) (flat_int .i64))) 1 rfl z95 ((rs.length - 1 : Nat) : Int) hi0 hi1
  injection hv with q1 _ q3
  injection q1 with q1
  injection q1 with q1
  subst q1 q3
  rw [Int.toNat_natCast, HLR.out] at hM
  have hcc2 := k95_openM hM
  subst hcc2
  have gl1 := hcc 1 _ rfl
  have fl1 := hfz 1
  rw [Int.toNat_natCast] at gl1 fl1
  replace gl1 : w91.cell? ⟨b, (rs.length - 1) * 2 + 1, none⟩ = some (.int .i64 r.f1) := gl1
  replace fl1 : w91.frozen? ⟨b, (rs.length - 1) * 2 + 1, none⟩ = false := fl1
  have hp := hput ⟨r.f0, r.f1 + n⟩ 1 (.int .i64 (r.f1 + n)) (by decide) (k95_mk _ _)
  rw [Int.toNat_natCast, HSET.out] at hp
  have HP := Go.Lib.hid hp
  clear hM hcl hcc hfz hput hp
  go_upto_region 9 with ((with_reducible refine gate_store (p := 78) rfl ?_); refine Sl.store_run (w1 := w91.setCell ⟨b, (rs.length - 1) * 2 + 1, none⟩ (.int .i64 (r.f1 + n))) (by rfl) (by rfl) (by first | (go_simp; done) | (go_simp; rfl)) ?_; have hS3 : St _ w0 (w91.setCell ⟨b, (rs.length - 1) * 2 + 1, none⟩ (.int .i64 (r.f1 + n))) := HP.out; generalize w91.setCell ⟨b, (rs.length - 1) * 2 + 1, none⟩ (.int .i64 (r.f1 + n)) = w92 at *; replace HS := Go.Lib.hid hS3; clear hS3 HP gl1 fl1 c0 c1)
  obtain ⟨c0, c1⟩ := HS.out.c2 0 _ _ _ _ rfl
  obtain ⟨b3, cap3, hv2, _, hc2, hf2, hput⟩ := HS.out.put 2 rfl ((rs.length - 1 : Nat) : Int) hi0 HI2.out
  injection hv2 with q1 _ q3
  injection q1 with q1
  injection q1 with q1
  subst q1 q3
  rw [Int.toNat_natCast] at hc2 hf2
  rw [HER.out] at hc2
  have hp := hput (total rs + n)
  rw [Int.toNat_natCast, HES.out] at hp
  have HP := Go.Lib.hid hp
  clear hput hp
  have hnb : ¬ ((ends rs).length : Int) ≤ (rs.length : Int) - 1 := by have := HI2.out; omega
  go_wp2_with ((with_reducible refine gate_store (p := 88) rfl ?_); refine Sl.store_run (w1 := w92.setCell ⟨b2, rs.length - 1, none⟩ (.int .i64 (total rs + n))) (by rfl) (by rfl) (by first | (go_simp; done) | (go_simp; rfl)) ?_; have hS3 : St _ w0 (w92.setCell ⟨b2, rs.length - 1, none⟩ (.int .i64 (total rs + n))) := HP.out; generalize w92.setCell ⟨b2, rs.length - 1, none⟩ (.int .i64 (total rs + n)) = w93 at *; replace HS := Go.Lib.hid hS3; clear hS3 HP hc2 hf2 c0 c1)
  go_ret
  refine ⟨rfl, shut_stp (A := some ⟨b, 0, none⟩) (B := some ⟨b2, 0, none⟩) (c := c) (d := d) ?_⟩
  have hS4 := HS.out
  have e1 : rs.length = (pre ++ [(⟨r.f0, r.f1 + n⟩ : S95)]).length := by rw [HRS.out]; simp
  have e2 : (ends rs).length = (ends (pre ++ [(⟨r.f0, r.f1 + n⟩ : S95)])).length := by rw [ends_len, ends_len]; exact e1
  rw [← e1, ← e2]
  exact hS4
end Go.Proofs.Ytolokohgphdngaa.Str
