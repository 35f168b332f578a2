/- More of owned memory. -/
import Derived.Test.YtkmhgolohppliaaSle
namespace Go.Proofs.Ytkmhgolohppliaa.Sl
open Go.RowKit Go.Proofs.YtkmhgolohppliaaW.PrintWords Go.Proofs.YtkmhgolohppliaaW.PrintLast Go.Proofs.YtkmhgolohppliaaW.PrintMore Go.Proofs.Ytkmhgolohppliaa.Mine
set_option linter.unusedVariables false
set_option linter.unusedSimpArgs false
namespace St
variable {l l2 : List SL} {A B : SL} {w0 w w1 : World} {S S2 : Nat → Prop}
/-- The first one behind the next two. -/
theorem down {C : SL} (h : St (C :: A :: B :: l) w0 w) : St (A :: B :: C :: l) w0 w := by
  have h1 := h.swap
  obtain ⟨S, ⟨S1, T, h1, h2, hd, hs⟩, k⟩ := h1
  exact ⟨S, ⟨S1, T, h1, SL.swap3 h2, hd, hs⟩, k⟩
/-- The third one ahead of the first two. -/
theorem up2 {C : SL} (h : St (A :: B :: C :: l) w0 w) : St (C :: A :: B :: l) w0 w := by
  obtain ⟨S, ⟨S1, T, h1, h2, hd, hs⟩, k⟩ := h
  exact St.swap ⟨S, ⟨S1, T, h1, SL.swap3 h2, hd, hs⟩, k⟩
/-- The first one behind the next two, and further: (C, A, B) as (A, B, C). -/
theorem down2 {C : SL} (h : St (C :: A :: B :: l) w0 w) : St (A :: B :: C :: l) w0 w := h.down
theorem setPart_ (h : St l w0 w) (n g t : Nat) (cs : Array Value) (e : l[n]? = some (SL.blk g t cs)) (i : Nat) (vs : List Value) (hl : i + vs.length ≤ cs.size) (cs' : Array Value) (e' : (cs.toList.take i ++ vs ++ cs.toList.drop (i + vs.length)).toArray = cs') :
    St (l.set n (SL.blk g t cs')) w0 (setAll g w i vs) := by
  subst e'
  obtain ⟨S1, h1, hk⟩ := h.at_ n _ e
  obtain ⟨h2, k2⟩ := setAll_blk vs i cs w h1 hl
  exact hk _ _ _ h2 k2
end St
section
variable {P : Program} {ops : Array Oper} {rest : List Oper} {o : Oper} {a : Act} {Q : Exit → Act → World → Prop} {Kc : Act → World → Prop} {l : List SL} {w0 W : World} {α : Type}
/-- Some cells of a block are written. -/
theorem storePart_st (HS : St l w0 W) (n g t : Nat) (cs : Array Value) (e : l[n]? = some (SL.blk g t cs)) (i : Nat) (vs : List Value) (hl : i + vs.length ≤ cs.size) (cs' : Array Value) (e' : (cs.toList.take i ++ vs ++ cs.toList.drop (i + vs.length)).toArray = cs') (hgd : o.guard = none) (hN : o.dst = none)
    (hrun : (execOp a.eval o).run P W = .ok .skip (setAll g W i vs))
    (h : ∀ w1, St (l.set n (SL.blk g t cs')) w0 w1 → wpList P ops Q rest a w1) : wpList P ops Q (o :: rest) a W :=
  store_run hgd hN hrun (h _ (HS.setPart_ n g t cs e i vs hl cs' e'))
/-- A block is written whole, in a region that draws. -/
theorem storeAll_stp (HS : St l w0 W) (n g t : Nat) (cs : Array Value) (e : l[n]? = some (SL.blk g t cs)) (vs : List Value) (hl : vs.length = cs.size) (hw : Region.wanted o (yielded ops a.tmps) = true) (hN : o.dst = none)
    (hrun : (execOp a.eval o).run P W = .ok .skip (setAll g W 0 vs))
    (h : ∀ w1, St (l.set n (SL.blk g t vs.toArray)) w0 w1 → Kc a w1) : if Region.wanted o (yielded ops a.tmps) = true then Oper.wp P o a W Kc Q else Kc (a.put none undef) W :=
  skip_ hw hN hrun (h _ (HS.setAll_ n g t cs e vs hl))
end
end Go.Proofs.Ytkmhgolohppliaa.Sl
