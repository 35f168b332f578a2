/- The table of bytes, and hashes. -/
import Derived.Test.YtomhhaaogenedaaCrc0
import Derived.Test.YtomhhaaogenedaaSla
namespace Go.Proofs.Ytomhhaaogenedaa.Crc
open Go.RowKit Go.Proofs.YtomhhaaogenedaaW.PrintWords Go.Proofs.YtomhhaaogenedaaW.PrintLast Go.Proofs.YtomhhaaogenedaaW.PrintMore Go.Proofs.Ytomhhaaogenedaa.Mine
open Go.Proofs.Ytomhhaaogenedaa.Sl (SL Stp Chg St No nums nums_size nums_one nums_set nums_get)
set_option linter.unusedVariables false
set_option linter.unusedSimpArgs false
attribute [local go_sem] max2_int min2_int max_two min_two max_three min_three max_four min_four
def zer (n : Nat) : List Nat := List.replicate n 0
/-- The table, as far as it is made. -/
def tabTo (k : Nat) : List Nat := (List.range k).map (stps 8) ++ List.replicate (256 - k) 0
def tab : List Nat := (List.range 256).map (stps 8)
theorem tabTo_len {k : Nat} (h : k ≤ 256) : (tabTo k).length = 256 := by unfold tabTo; simp; omega
theorem tabTo_set {k : Nat} (h : k < 256) : (tabTo k).set k (stps 8 k) = tabTo (k + 1) := by
  unfold tabTo
  rw [List.set_append_right _ _ (by simp), List.range_succ, List.map_append, show 256 - k = (256 - (k + 1)) + 1 by omega, List.replicate_succ]
  simp
theorem tabTo_all : tabTo 256 = tab := by unfold tabTo tab; simp
theorem tabTo_none : tabTo 0 = List.replicate 256 0 := rfl
theorem zero77 : (Try.prog.info? 77).map (·.zero) = some (some (.agg (nums .u32 (List.replicate 256 0)))) := by kernel_rfl
theorem size77 : (Try.prog.info? 77).map (·.size) = some 256 := by kernel_rfl
set_option maxHeartbeats 6400000 in
set_option maxRecDepth 100000 in
theorem table_is (w : World) : Calls Try.prog 61 #[] w fun e w' => e = .returned (.agg (nums .u32 tab)) ∧ Below w.heap.size w w' := by
  have HS := Go.Lib.hid (St.start w)
  go_enter Try.func61, Try.ntmps61
  go_wp2_with (first | ((with_reducible refine gate_dst (N := 0) rfl ?_); refine Sl.box_st HS.out (by rfl) (cs := nums .u32 (List.replicate 256 0)) (t := 77) (Sl.alloc_run rfl zero77) ?_; intro g0 w1_ HSn HBn; clear HBn; replace HS : Hid (St [SL.blk g0 77 (nums .u32 (List.replicate 256 0))] w w1_) := Go.Lib.hid HSn; clear HSn) | ((with_reducible refine gate_dst (N := 1) rfl ?_); refine Sl.box_st HS.out (by rfl) (cs := nums .u32 (List.replicate 256 0)) (t := 77) (Sl.alloc_run rfl zero77) ?_; intro g1 w2_ HSn HBn; clear HBn; replace HS : Hid (St [SL.blk g1 77 (nums .u32 (List.replicate 256 0)), SL.blk g0 77 (nums .u32 (List.replicate 256 0))] w w2_) := Go.Lib.hid HSn; clear HSn))
  go_loopw [3] (fun i wr => ∃ k : Nat, k ≤ 256 ∧ i = .int .i64 k ∧ St [SL.blk g1 77 (nums .u32 (tabTo k)), SL.blk g0 77 (nums .u32 (List.replicate 256 0))] w wr) (fun i _ => 256 - (intOf i).toNat)
  case atStart => exact ⟨0, by decide, rfl, by rw [tabTo_none]; exact HS.out⟩
  case round =>
    clear HS
    obtain ⟨k, hk, rfl, hS⟩ := hrel
    have HS := Go.Lib.hid hS
    clear hS
    by_cases hlt : k < 256
    · have hlt' : decide ((k : Int) < 256) = true := by simp; omega
      have ec : ((k : Int) % 4294967296) = (k : Int) := by omega
      go_wp2_with (first | (go_at_call 67; refine (one_is k (by omega) _).mono ?_; rintro e w2 ⟨rfl, hD⟩; replace HS := Go.Lib.hid (HS.out.drawn hD); clear hD; have hc := HS.out.cell 0 g1 77 _ rfl k; rw [nums_get k (by rw [tabTo_len (by omega)]; exact hlt)] at hc; have hf := HS.out.free 0 g1 77 _ rfl k) | ((with_reducible refine gate_store (p := 10) rfl ?_); refine Sl.store_st HS.out 0 g1 77 _ rfl k (.int .u32 ((stps 8 k : Nat) : Int)) (by rfl) (by rfl) (by first | (go_simp; done) | (go_simp; rfl)) ?_; intro w3 HSn; rw [nums_set, tabTo_set hlt] at HSn; replace HS := Go.Lib.hid HSn; clear HSn hc hf))
      go_roundw
      case rel => exact ⟨k + 1, by omega, rfl, HS.out⟩
      case measure => simp [intOf]; omega
    · obtain rfl : k = 256 := by omega
      rw [tabTo_all] at HS
      go_wp2_with (first | ((with_reducible refine gate_dst (N := 12) rfl ?_); refine Sl.load_st HS.out 0 g1 77 _ rfl (by rfl) 77 (.tmp 1) rfl rfl _ Try.underlying77 rfl (by rw [size77, nums_size]; rfl) ?_) | ((with_reducible refine gate_store (p := 0) rfl ?_); refine Sl.storeRow_st HS.out 1 g0 77 _ (nums .u32 tab) rfl (by rfl) 77 (.tmp 0) (.tmp 12) rfl rfl rfl (by rw [size77, nums_size]; rfl) (by rw [nums_size, nums_size]; rfl) nums_one ?_; intro w3 HSn; replace HS := Go.Lib.hid HSn; clear HSn))
      refine bodyPost_ret (v := .agg (nums .u32 tab)) (results_cell_row (by rfl) _ _ g0 77 (nums .u32 tab) (0, 0) _ (by rfl) (HS.out.heap 1 _ _ _ rfl) Try.underlying77 rfl (by rw [size77, nums_size]; rfl)) rfl ⟨rfl, HS.out.below⟩
/-- What a hash holds. -/
def hsh (v : Nat) (n : Int) : Array Value := ((nums .u32 tab).push (.int .u32 (v : Int))).push (.int .i64 n)
theorem tab_len : tab.length = 256 := by unfold tab; simp
theorem hsh_lt (v : Nat) (n : Int) (i : Nat) (h : i < 256) : (hsh v n)[i]? = some (.int .u32 ((stps 8 i : Nat) : Int)) := by
  have hs : (nums .u32 tab).size = 256 := by rw [nums_size, tab_len]
  unfold hsh
  rw [Array.getElem?_push_lt (by simp [hs]; omega), Array.getElem_push_lt (by rw [hs]; exact h)]
  have := nums_get (k := .u32) (l := tab) i (by rw [tab_len]; exact h)
  rw [Array.getElem?_eq_getElem (by rw [hs]; exact h)] at this
  rw [this]
  unfold tab
  simp [h]
theorem hsh_v (v : Nat) (n : Int) : (hsh v n)[256]? = some (.int .u32 (v : Int)) := by
  have hs : (nums .u32 tab).size = 256 := by rw [nums_size, tab_len]
  unfold hsh
  rw [Array.getElem?_push_lt (by simp [hs])]
  have := Array.getElem_push_eq (xs := nums .u32 tab) (x := .int .u32 (v : Int))
  simp only [hs] at this
  rw [this]
theorem hsh_n (v : Nat) (n : Int) : (hsh v n)[257]? = some (.int .i64 n) := by
  have hs : ((nums .u32 tab).push (.int .u32 (v : Int))).size = 257 := by simp [nums_size, tab_len]
  unfold hsh
  have := Array.getElem?_push_size (xs := (nums .u32 tab).push (.int .u32 (v : Int))) (x := .int .i64 n)
  rw [hs] at this
  exact this
theorem hsh_set_v (v u : Nat) (n : Int) : (hsh v n).setIfInBounds 256 (.int .u32 (u : Int)) = hsh u n := by
  have hs : (nums .u32 tab).toList.length = 256 := by simp [nums_size, tab_len]
  apply Array.toList_inj.1
  unfold hsh
  simp [hs, List.set_append]
theorem hsh_set_n (v : Nat) (n m : Int) : (hsh v n).setIfInBounds 257 (.int .i64 m) = hsh v m := by
  have hs : (nums .u32 tab).toList.length = 256 := by simp [nums_size, tab_len]
  apply Array.toList_inj.1
  unfold hsh
  simp [hs, List.set_append]
theorem built80 : Try.prog.built 80 [(0, .agg (nums .u32 tab)), (1, .int .u32 4294967295)] = some (hsh 4294967295 0) := by kernel_rfl
variable {l : List SL} {w0 w : World}
set_option maxHeartbeats 6400000 in
set_option maxRecDepth 100000 in
theorem new_is (h : St l w0 w) : Calls Try.prog 30 #[] w fun e w' => ∃ g, e = .returned (.pointer (some ⟨g, 0, none⟩)) ∧ St (SL.blk g 80 (hsh 4294967295 0) :: l) w0 w' := by
  obtain ⟨A, hA⟩ : ∃ A, A = nums .u32 tab := ⟨_, rfl⟩
  obtain ⟨B, hB⟩ : ∃ B, B = hsh 4294967295 0 := ⟨_, rfl⟩
  have hb : Try.prog.built 80 [(0, .agg A), (1, .int .u32 4294967295)] = some B := by rw [hA, hB]; exact built80
  have ht : ∀ w, Calls Try.prog 61 #[] w fun e w' => e = .returned (.agg A) ∧ Below w.heap.size w w' := by rw [hA]; exact table_is
  rw [← hB]
  have HB := Go.Lib.hid hb
  have HT := Go.Lib.hid ht
  clear hA hB hb ht
  have HS := Go.Lib.hid h
  clear h
  go_enter Try.func30, Try.ntmps30
  go_wp2_with (first | (go_at_call 61; refine (HT.out _).mono ?_; rintro e w2 ⟨rfl, hD⟩; replace HS := Go.Lib.hid (HS.out.then_ hD); clear hD; dsimp only; rename_i K_ hK_; refine hK_ _ _ ?_; refine Sl.build_st (by rfl) 80 #[(0, .tmp 1), (1, .const (.int .u32 4294967295))] rfl [(0, .agg A), (1, .int .u32 4294967295)] (by first | (go_simp; done) | (simp; rfl)) B HB.out ?_) | ((with_reducible refine gate_dst (N := 3) rfl ?_); refine Sl.box_st HS.out (by rfl) (cs := B) (t := 80) (Sl.box_run rfl rfl) ?_; intro g1 w3 HSn HBn; clear HBn; replace HS := Go.Lib.hid HSn; clear HSn))
  go_ret
  exact ⟨_, rfl, HS.out⟩
end Go.Proofs.Ytomhhaaogenedaa.Crc
