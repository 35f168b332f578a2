/-
  No cell of these rows narrows 'for every input' (looked for: loops, veiled, ifaces, maps, wideKeys, modest, calm, conditions, laid).
  DERIVED. THE GIVEN ROWS OF THIS SEAT. 6 by the template 'for every input the law returns true; each argument reads behind the call as it read before'; 0 by the template 'total and deterministic' (their statements: YtolokohgphdngaaTotals.lean).
  GIVEN WITH THE SEED: the statements are not yours to turn. If you find one false, say at which input.
  Laid BY PROGRAM, IN A SANDBOX (cutbox-rows.mjs): the forced cells as the released guide's own fill.sh prints them over the translation ad82d7a3fbdb3758… (all of the seat's roots in one cut). By AI agents, Wed Nov 11 2026. No macro, syntax, notation, axiom, sorry.
-/
import Derived.Test.YtolokohgphdngaaChecked
import GoSem.Claim
import GoSem.ClaimJoined
import GoSem.ClaimMapViews
import Derived.JoinedTies
import Derived.KernelRfl
namespace Go.Proofs.Ytolokohgphdngaa
/- THE CELL 'sum', in the pinned program and in every row, IS THE sha256 OF THE DUMP (.gsa) THAT YtolokohgphdngaaProg.lean LOADS. Nothing in Lean hashes anything: it is a label: what it is worth is what the hold of that sum in a sandbox is worth. -/
noncomputable def Try.pinned : Pinned := { name := "ytolokohgphdngaa", sum := "ad82d7a3fbdb3758f10265c38231eab4baf7f235035fd6dafdc6f843296de07f", checked := Try.checked }
namespace Rows
def none {H : Type} : Left H := { results := [], args := [] }

/-- 'countwheellaw40.PortSamples': WHATEVER THE INPUT: true; the input reads as it did. -/
def portSamplesSpec : ChangeSpec := { name := "portSamples", fn := fun _ => fun
  | [d1, d2, d3] => { results := [.lit (.bool true)], args := [d1, d2, d3] }
  | _ => none }
def portSamplesRow : OpenClaim := { program := "ytolokohgphdngaa", sum := "ad82d7a3fbdb3758f10265c38231eab4baf7f235035fd6dafdc6f843296de07f", func := "countwheel/countwheellaw40.PortSamples", spec := "portSamples", apart := false }
def PortSamplesSaid : Prop := portSamplesRow.holds Try.pinned (OpenSpec.ofChange portSamplesSpec)

/-- ITS FALSE NEIGHBOUR: 'it returns false'. Refute it at one input. -/
def portSamplesWrong : ChangeSpec := { name := "portSamples", fn := fun _ => fun
  | [d1, d2, d3] => { results := [.lit (.bool false)], args := [d1, d2, d3] }
  | _ => none }
def PortSamplesWrongFalsely : Prop := portSamplesRow.holds Try.pinned (OpenSpec.ofChange portSamplesWrong)

/-- 'countwheellaw40.PortOrder': WHATEVER THE INPUT: true; the input reads as it did. -/
def portOrderSpec : ChangeSpec := { name := "portOrder", fn := fun _ => fun
  | [d1, d2, d3, d4] => { results := [.lit (.bool true)], args := [d1, d2, d3, d4] }
  | _ => none }
def portOrderRow : OpenClaim := { program := "ytolokohgphdngaa", sum := "ad82d7a3fbdb3758f10265c38231eab4baf7f235035fd6dafdc6f843296de07f", func := "countwheel/countwheellaw40.PortOrder", spec := "portOrder", apart := false }
def PortOrderSaid : Prop := portOrderRow.holds Try.pinned (OpenSpec.ofChange portOrderSpec)

/-- ITS FALSE NEIGHBOUR: 'it returns false'. Refute it at one input. -/
def portOrderWrong : ChangeSpec := { name := "portOrder", fn := fun _ => fun
  | [d1, d2, d3, d4] => { results := [.lit (.bool false)], args := [d1, d2, d3, d4] }
  | _ => none }
def PortOrderWrongFalsely : Prop := portOrderRow.holds Try.pinned (OpenSpec.ofChange portOrderWrong)

/-- 'countwheellaw40.PortQueues': WHATEVER THE INPUT: true; the input reads as it did. -/
def portQueuesSpec : ChangeSpec := { name := "portQueues", fn := fun _ => fun
  | [d1, d2, d3] => { results := [.lit (.bool true)], args := [d1, d2, d3] }
  | _ => none }
def portQueuesRow : OpenClaim := { program := "ytolokohgphdngaa", sum := "ad82d7a3fbdb3758f10265c38231eab4baf7f235035fd6dafdc6f843296de07f", func := "countwheel/countwheellaw40.PortQueues", spec := "portQueues", apart := false }
def PortQueuesSaid : Prop := portQueuesRow.holds Try.pinned (OpenSpec.ofChange portQueuesSpec)

/-- ITS FALSE NEIGHBOUR: 'it returns false'. Refute it at one input. -/
def portQueuesWrong : ChangeSpec := { name := "portQueues", fn := fun _ => fun
  | [d1, d2, d3] => { results := [.lit (.bool false)], args := [d1, d2, d3] }
  | _ => none }
def PortQueuesWrongFalsely : Prop := portQueuesRow.holds Try.pinned (OpenSpec.ofChange portQueuesWrong)

/-- 'countwheellaw24.LatchLast': WHATEVER THE INPUT: true; the input reads as it did. -/
def latchLastSpec : ChangeSpec := { name := "latchLast", fn := fun _ => fun
  | [d1, d2, d3] => { results := [.lit (.bool true)], args := [d1, d2, d3] }
  | _ => none }
def latchLastRow : OpenClaim := { program := "ytolokohgphdngaa", sum := "ad82d7a3fbdb3758f10265c38231eab4baf7f235035fd6dafdc6f843296de07f", func := "countwheel/countwheellaw24.LatchLast", spec := "latchLast", unfollowed := true, recurses := true, apart := false }
def LatchLastSaid : Prop := latchLastRow.holds Try.pinned (OpenSpec.ofChange latchLastSpec)

/-- ITS FALSE NEIGHBOUR: 'it returns false'. Refute it at one input. -/
def latchLastWrong : ChangeSpec := { name := "latchLast", fn := fun _ => fun
  | [d1, d2, d3] => { results := [.lit (.bool false)], args := [d1, d2, d3] }
  | _ => none }
def LatchLastWrongFalsely : Prop := latchLastRow.holds Try.pinned (OpenSpec.ofChange latchLastWrong)

/-- 'countwheellaw27.StripAdds': WHATEVER THE INPUT: true; the input reads as it did. -/
def stripAddsSpec : ChangeSpec := { name := "stripAdds", fn := fun _ => fun
  | [d1, d2, d3, d4, d5] => { results := [.lit (.bool true)], args := [d1, d2, d3, d4, d5] }
  | _ => none }
def stripAddsRow : OpenClaim := { program := "ytolokohgphdngaa", sum := "ad82d7a3fbdb3758f10265c38231eab4baf7f235035fd6dafdc6f843296de07f", func := "countwheel/countwheellaw27.StripAdds", spec := "stripAdds", unfollowed := true, recurses := true, apart := false }
def StripAddsSaid : Prop := stripAddsRow.holds Try.pinned (OpenSpec.ofChange stripAddsSpec)

/-- ITS FALSE NEIGHBOUR: 'it returns false'. Refute it at one input. -/
def stripAddsWrong : ChangeSpec := { name := "stripAdds", fn := fun _ => fun
  | [d1, d2, d3, d4, d5] => { results := [.lit (.bool false)], args := [d1, d2, d3, d4, d5] }
  | _ => none }
def StripAddsWrongFalsely : Prop := stripAddsRow.holds Try.pinned (OpenSpec.ofChange stripAddsWrong)

/-- 'countwheellaw36.GanttReads': WHATEVER THE INPUT: true; the input reads as it did. -/
def ganttReadsSpec : ChangeSpec := { name := "ganttReads", fn := fun _ => fun
  | [d1, d2] => { results := [.lit (.bool true)], args := [d1, d2] }
  | _ => none }
def ganttReadsRow : OpenClaim := { program := "ytolokohgphdngaa", sum := "ad82d7a3fbdb3758f10265c38231eab4baf7f235035fd6dafdc6f843296de07f", func := "countwheel/countwheellaw36.GanttReads", spec := "ganttReads", unfollowed := true, recurses := true, apart := false }
def GanttReadsSaid : Prop := ganttReadsRow.holds Try.pinned (OpenSpec.ofChange ganttReadsSpec)

/-- ITS FALSE NEIGHBOUR: 'it returns false'. Refute it at one input. -/
def ganttReadsWrong : ChangeSpec := { name := "ganttReads", fn := fun _ => fun
  | [d1, d2] => { results := [.lit (.bool false)], args := [d1, d2] }
  | _ => none }
def GanttReadsWrongFalsely : Prop := ganttReadsRow.holds Try.pinned (OpenSpec.ofChange ganttReadsWrong)

/- THE SECOND FORM. 'bulk': how many values and letters a reading holds, each counted each time it is reached (what is shared counts as often as it is met; a slice's spare places count too). A statement '..UptoSaid' is the law's where the arguments, and the package variables that the reading takes, are together of bulk at most 1048576: NARROWER than '..Said'. Prove '..Said' where nothing that the law and all that it calls make is longer than what came in: it says more and counts as full. Else prove '..UptoSaid'. A law counts once. -/
mutual
def uptoBulk {H : Type} : DataW H → Nat
  | .lit (.string bytes) => bytes.length + 1
  | .lit _ => 1
  | .nil => 1
  | .ptr d => uptoBulk d + 1
  | .slice elems spare => uptoBulkAll elems + uptoBulkAll spare + 1
  | .agg parts => uptoBulkAll parts + 1
  | .iface _ d => uptoBulk d + 1
  | .map entries => uptoBulkEntries entries + 1
  | .held _ => 1
def uptoBulkAll {H : Type} : List (DataW H) → Nat
  | [] => 0
  | d :: r => uptoBulk d + uptoBulkAll r
def uptoBulkEntries {H : Type} : List (Lit × DataW H) → Nat
  | [] => 0
  | x :: r => uptoBulkEntry x + uptoBulkEntries r
def uptoBulkEntry {H : Type} : Lit × DataW H → Nat
  | (.string bytes, d) => bytes.length + uptoBulk d + 1
  | (_, d) => uptoBulk d + 1
 end
def uptoSmall : (H : Type) → List (DataW H) → Bool := fun _ ds => decide (uptoBulkAll ds ≤ 1048576)
def OpenSpec.upto (s : _root_.Go.ChangeSpec) : _root_.Go.OpenSpec := { _root_.Go.OpenSpec.ofChange s with cond := some uptoSmall }

/-- 'countwheellaw40.PortSamples', WHERE WHAT IT READS IS OF BULK AT MOST 1048576: true; the input reads as it did. -/
def portSamplesUptoRow : OpenClaim := { program := "ytolokohgphdngaa", sum := "ad82d7a3fbdb3758f10265c38231eab4baf7f235035fd6dafdc6f843296de07f", func := "countwheel/countwheellaw40.PortSamples", spec := "portSamples", apart := false, narrowed := true }
def PortSamplesUptoSaid : Prop := portSamplesUptoRow.holds Try.pinned (OpenSpec.upto portSamplesSpec)

/-- 'countwheellaw40.PortOrder', WHERE WHAT IT READS IS OF BULK AT MOST 1048576: true; the input reads as it did. -/
def portOrderUptoRow : OpenClaim := { program := "ytolokohgphdngaa", sum := "ad82d7a3fbdb3758f10265c38231eab4baf7f235035fd6dafdc6f843296de07f", func := "countwheel/countwheellaw40.PortOrder", spec := "portOrder", apart := false, narrowed := true }
def PortOrderUptoSaid : Prop := portOrderUptoRow.holds Try.pinned (OpenSpec.upto portOrderSpec)

/-- 'countwheellaw40.PortQueues', WHERE WHAT IT READS IS OF BULK AT MOST 1048576: true; the input reads as it did. -/
def portQueuesUptoRow : OpenClaim := { program := "ytolokohgphdngaa", sum := "ad82d7a3fbdb3758f10265c38231eab4baf7f235035fd6dafdc6f843296de07f", func := "countwheel/countwheellaw40.PortQueues", spec := "portQueues", apart := false, narrowed := true }
def PortQueuesUptoSaid : Prop := portQueuesUptoRow.holds Try.pinned (OpenSpec.upto portQueuesSpec)

/-- 'countwheellaw24.LatchLast', WHERE WHAT IT READS IS OF BULK AT MOST 1048576: true; the input reads as it did. -/
def latchLastUptoRow : OpenClaim := { program := "ytolokohgphdngaa", sum := "ad82d7a3fbdb3758f10265c38231eab4baf7f235035fd6dafdc6f843296de07f", func := "countwheel/countwheellaw24.LatchLast", spec := "latchLast", unfollowed := true, recurses := true, apart := false, narrowed := true }
def LatchLastUptoSaid : Prop := latchLastUptoRow.holds Try.pinned (OpenSpec.upto latchLastSpec)

/-- 'countwheellaw27.StripAdds', WHERE WHAT IT READS IS OF BULK AT MOST 1048576: true; the input reads as it did. -/
def stripAddsUptoRow : OpenClaim := { program := "ytolokohgphdngaa", sum := "ad82d7a3fbdb3758f10265c38231eab4baf7f235035fd6dafdc6f843296de07f", func := "countwheel/countwheellaw27.StripAdds", spec := "stripAdds", unfollowed := true, recurses := true, apart := false, narrowed := true }
def StripAddsUptoSaid : Prop := stripAddsUptoRow.holds Try.pinned (OpenSpec.upto stripAddsSpec)

/-- 'countwheellaw36.GanttReads', WHERE WHAT IT READS IS OF BULK AT MOST 1048576: true; the input reads as it did. -/
def ganttReadsUptoRow : OpenClaim := { program := "ytolokohgphdngaa", sum := "ad82d7a3fbdb3758f10265c38231eab4baf7f235035fd6dafdc6f843296de07f", func := "countwheel/countwheellaw36.GanttReads", spec := "ganttReads", unfollowed := true, recurses := true, apart := false, narrowed := true }
def GanttReadsUptoSaid : Prop := ganttReadsUptoRow.holds Try.pinned (OpenSpec.upto ganttReadsSpec)

end Rows
end Go.Proofs.Ytolokohgphdngaa
