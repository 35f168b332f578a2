/- A field of an element of an owned row is written. -/
import Derived.Test.YtolokohgphdngaaSle
namespace Go.Proofs.Ytolokohgphdngaa.Sl
open Go.RowKit Go.Proofs.YtolokohgphdngaaW.PrintWords Go.Proofs.YtolokohgphdngaaW.PrintLast Go.Proofs.YtolokohgphdngaaW.PrintMore Go.Proofs.Ytolokohgphdngaa.Mine
set_option linter.unusedVariables false
section
variable {α : Type} {d : Kd α} {l : List SL} {w0 w : World}
theorem St.putSeg (hfl : Flat d) {ee : Nat} {v : Value} {xs : List α} (h : St l w0 w) (n : Nat) (e : l[n]? = some (SL.row d ee v xs)) (z : α) (i : Int) (h0 : 0 ≤ i) (hi : i < xs.length) :
    ∃ b cap c, v = .slice (some ⟨b, 0, none⟩) xs.length cap ∧ c.length = d.sz ∧ (∃ base ok, d.M w base ok (xs.getD i.toNat z) c) ∧ (∀ j u, c[j]? = some u → w.cell? ⟨b, i.toNat * d.sz + j, none⟩ = some u) ∧ (∀ j, w.frozen? ⟨b, i.toNat * d.sz + j, none⟩ = false) ∧
      ∀ (x' : α) (j : Nat) (u : Value), j < d.sz → d.K w x' (c.take j ++ [u] ++ c.drop (j + 1)) → St (l.set n (SL.row d ee v (xs.set i.toNat x'))) w0 (w.setCell ⟨b, i.toNat * d.sz + j, none⟩ u) := by
  obtain ⟨S1, h2, hk⟩ := h.at_ n _ e
  have hR := h2.1
  obtain ⟨hok, inner, ho, hr⟩ := h2.1
  rcases ho.2 with ⟨rfl, hn0⟩ | ⟨b, cap, cur, rfl, hb, hcell, hle, hmx, hsz, htk⟩
  · omega
  · obtain ⟨c, hcl, hM, hcc, hf⟩ := Kd.R_elem hR z i h0 hi
    refine ⟨b, cap, c, rfl, hcl, ⟨_, _, hM⟩, hcc, hf, fun x' j u hj hK => ?_⟩
    have hs := Kd.R_seg (okp := fun _ => False) hR i h0 hi (seg := [u]) hcl hcc (by simp; omega) (x' := x') (hfl hK) (fun k hk => hk.elim)
    have e1 : w.setCells b (i.toNat * d.sz + j) [u] = w.setCell ⟨b, i.toNat * d.sz + j, none⟩ u := rfl
    rw [e1] at hs
    exact hk _ _ S1 ⟨hs.1, fun k hk => by simpa [World.setCell] using h2.2 k hk⟩ ⟨(Chg.refl S1 w).setCell (.inl (hok b (by simp [Value.ownBlock]))) _, fun k hk => .inl hk⟩
end
end Go.Proofs.Ytolokohgphdngaa.Sl
