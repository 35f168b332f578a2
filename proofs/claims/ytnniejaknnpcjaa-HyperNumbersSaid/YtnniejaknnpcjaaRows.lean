/-
  No cell of these rows narrows 'for every input' (looked for: loops, veiled, ifaces, maps, wideKeys, modest, calm, conditions, laid).
  DERIVED. THE GIVEN ROWS OF THIS SEAT. 7 by the template 'for every input the law returns true; each argument reads behind the call as it read before'; 0 by the template 'total and deterministic' (their statements: YtnniejaknnpcjaaTotals.lean).
  GIVEN WITH THE SEED: the statements are not yours to turn. If you find one false, say at which input.
  Laid BY PROGRAM, IN A SANDBOX (cutbox-rows.mjs): the forced cells as the released guide's own fill.sh prints them over the translation 5ae3479ffc2ddc0d… (all of the seat's roots in one cut). By AI agents, Wed Nov 11 2026. No macro, syntax, notation, axiom, sorry.
-/
import Derived.Test.YtnniejaknnpcjaaChecked
import GoSem.Claim
import GoSem.ClaimJoined
import GoSem.ClaimMapViews
import Derived.JoinedTies
import Derived.KernelRfl
namespace Go.Proofs.Ytnniejaknnpcjaa
/- THE CELL 'sum', in the pinned program and in every row, IS THE sha256 OF THE DUMP (.gsa) THAT YtnniejaknnpcjaaProg.lean LOADS. Nothing in Lean hashes anything: it is a label: what it is worth is what the hold of that sum in a sandbox is worth. -/
noncomputable def Try.pinned : Pinned := { name := "ytnniejaknnpcjaa", sum := "5ae3479ffc2ddc0d913c82d2bb437ccf185810fb109babe18366258be5e770d3", checked := Try.checked }
namespace Rows
def none {H : Type} : Left H := { results := [], args := [] }

/-- 'countwheellaw28.WordsExplain': WHATEVER THE INPUT: true; the input reads as it did. -/
def wordsExplainSpec : ChangeSpec := { name := "wordsExplain", fn := fun _ => fun
  | [d1, d2] => { results := [.lit (.bool true)], args := [d1, d2] }
  | _ => none }
def wordsExplainRow : OpenClaim := { program := "ytnniejaknnpcjaa", sum := "5ae3479ffc2ddc0d913c82d2bb437ccf185810fb109babe18366258be5e770d3", func := "countwheel/countwheellaw28.WordsExplain", spec := "wordsExplain", unfollowed := true, recurses := true, plainKeys := false, apart := false }
def WordsExplainSaid : Prop := wordsExplainRow.holds Try.pinned (OpenSpec.ofChange wordsExplainSpec)

/-- ITS FALSE NEIGHBOUR: 'it returns false'. Refute it at one input. -/
def wordsExplainWrong : ChangeSpec := { name := "wordsExplain", fn := fun _ => fun
  | [d1, d2] => { results := [.lit (.bool false)], args := [d1, d2] }
  | _ => none }
def WordsExplainWrongFalsely : Prop := wordsExplainRow.holds Try.pinned (OpenSpec.ofChange wordsExplainWrong)

/-- 'countwheellaw28.WordsCount': WHATEVER THE INPUT: true; the input reads as it did. -/
def wordsCountSpec : ChangeSpec := { name := "wordsCount", fn := fun _ => fun
  | [d1, d2] => { results := [.lit (.bool true)], args := [d1, d2] }
  | _ => none }
def wordsCountRow : OpenClaim := { program := "ytnniejaknnpcjaa", sum := "5ae3479ffc2ddc0d913c82d2bb437ccf185810fb109babe18366258be5e770d3", func := "countwheel/countwheellaw28.WordsCount", spec := "wordsCount", unfollowed := true, recurses := true, plainKeys := false, apart := false }
def WordsCountSaid : Prop := wordsCountRow.holds Try.pinned (OpenSpec.ofChange wordsCountSpec)

/-- ITS FALSE NEIGHBOUR: 'it returns false'. Refute it at one input. -/
def wordsCountWrong : ChangeSpec := { name := "wordsCount", fn := fun _ => fun
  | [d1, d2] => { results := [.lit (.bool false)], args := [d1, d2] }
  | _ => none }
def WordsCountWrongFalsely : Prop := wordsCountRow.holds Try.pinned (OpenSpec.ofChange wordsCountWrong)

/-- 'countwheellaw28.WordsRuns': WHATEVER THE INPUT: true; the input reads as it did. -/
def wordsRunsSpec : ChangeSpec := { name := "wordsRuns", fn := fun _ => fun
  | [d1, d2] => { results := [.lit (.bool true)], args := [d1, d2] }
  | _ => none }
def wordsRunsRow : OpenClaim := { program := "ytnniejaknnpcjaa", sum := "5ae3479ffc2ddc0d913c82d2bb437ccf185810fb109babe18366258be5e770d3", func := "countwheel/countwheellaw28.WordsRuns", spec := "wordsRuns", unfollowed := true, recurses := true, plainKeys := false, apart := false }
def WordsRunsSaid : Prop := wordsRunsRow.holds Try.pinned (OpenSpec.ofChange wordsRunsSpec)

/-- ITS FALSE NEIGHBOUR: 'it returns false'. Refute it at one input. -/
def wordsRunsWrong : ChangeSpec := { name := "wordsRuns", fn := fun _ => fun
  | [d1, d2] => { results := [.lit (.bool false)], args := [d1, d2] }
  | _ => none }
def WordsRunsWrongFalsely : Prop := wordsRunsRow.holds Try.pinned (OpenSpec.ofChange wordsRunsWrong)

/-- 'countwheellaw35.HyperNumbers': WHATEVER THE INPUT: true; the input reads as it did. -/
def hyperNumbersSpec : ChangeSpec := { name := "hyperNumbers", fn := fun _ => fun
  | [d1, d2, d3, d4, d5] => { results := [.lit (.bool true)], args := [d1, d2, d3, d4, d5] }
  | _ => none }
def hyperNumbersRow : OpenClaim := { program := "ytnniejaknnpcjaa", sum := "5ae3479ffc2ddc0d913c82d2bb437ccf185810fb109babe18366258be5e770d3", func := "countwheel/countwheellaw35.HyperNumbers", spec := "hyperNumbers", plainKeys := false, apart := false }
def HyperNumbersSaid : Prop := hyperNumbersRow.holds Try.pinned (OpenSpec.ofChange hyperNumbersSpec)

/-- ITS FALSE NEIGHBOUR: 'it returns false'. Refute it at one input. -/
def hyperNumbersWrong : ChangeSpec := { name := "hyperNumbers", fn := fun _ => fun
  | [d1, d2, d3, d4, d5] => { results := [.lit (.bool false)], args := [d1, d2, d3, d4, d5] }
  | _ => none }
def HyperNumbersWrongFalsely : Prop := hyperNumbersRow.holds Try.pinned (OpenSpec.ofChange hyperNumbersWrong)

/-- 'countwheellaw35.HyperWays': WHATEVER THE INPUT: true; the input reads as it did. -/
def hyperWaysSpec : ChangeSpec := { name := "hyperWays", fn := fun _ => fun
  | [d1, d2, d3] => { results := [.lit (.bool true)], args := [d1, d2, d3] }
  | _ => none }
def hyperWaysRow : OpenClaim := { program := "ytnniejaknnpcjaa", sum := "5ae3479ffc2ddc0d913c82d2bb437ccf185810fb109babe18366258be5e770d3", func := "countwheel/countwheellaw35.HyperWays", spec := "hyperWays", recurses := true, plainKeys := false, apart := false }
def HyperWaysSaid : Prop := hyperWaysRow.holds Try.pinned (OpenSpec.ofChange hyperWaysSpec)

/-- ITS FALSE NEIGHBOUR: 'it returns false'. Refute it at one input. -/
def hyperWaysWrong : ChangeSpec := { name := "hyperWays", fn := fun _ => fun
  | [d1, d2, d3] => { results := [.lit (.bool false)], args := [d1, d2, d3] }
  | _ => none }
def HyperWaysWrongFalsely : Prop := hyperWaysRow.holds Try.pinned (OpenSpec.ofChange hyperWaysWrong)

/-- 'countwheellaw32.PlanBest': WHATEVER THE INPUT: true; the input reads as it did. -/
def planBestSpec : ChangeSpec := { name := "planBest", fn := fun _ => fun
  | [d1, d2] => { results := [.lit (.bool true)], args := [d1, d2] }
  | _ => none }
def planBestRow : OpenClaim := { program := "ytnniejaknnpcjaa", sum := "5ae3479ffc2ddc0d913c82d2bb437ccf185810fb109babe18366258be5e770d3", func := "countwheel/countwheellaw32.PlanBest", spec := "planBest", unfollowed := true, recurses := true, plainKeys := false, apart := false }
def PlanBestSaid : Prop := planBestRow.holds Try.pinned (OpenSpec.ofChange planBestSpec)

/-- ITS FALSE NEIGHBOUR: 'it returns false'. Refute it at one input. -/
def planBestWrong : ChangeSpec := { name := "planBest", fn := fun _ => fun
  | [d1, d2] => { results := [.lit (.bool false)], args := [d1, d2] }
  | _ => none }
def PlanBestWrongFalsely : Prop := planBestRow.holds Try.pinned (OpenSpec.ofChange planBestWrong)

/-- 'countwheellaw32.PlanWords': WHATEVER THE INPUT: true; the input reads as it did. -/
def planWordsSpec : ChangeSpec := { name := "planWords", fn := fun _ => fun
  | [d1, d2] => { results := [.lit (.bool true)], args := [d1, d2] }
  | _ => none }
def planWordsRow : OpenClaim := { program := "ytnniejaknnpcjaa", sum := "5ae3479ffc2ddc0d913c82d2bb437ccf185810fb109babe18366258be5e770d3", func := "countwheel/countwheellaw32.PlanWords", spec := "planWords", unfollowed := true, recurses := true, plainKeys := false, apart := false }
def PlanWordsSaid : Prop := planWordsRow.holds Try.pinned (OpenSpec.ofChange planWordsSpec)

/-- ITS FALSE NEIGHBOUR: 'it returns false'. Refute it at one input. -/
def planWordsWrong : ChangeSpec := { name := "planWords", fn := fun _ => fun
  | [d1, d2] => { results := [.lit (.bool false)], args := [d1, d2] }
  | _ => none }
def PlanWordsWrongFalsely : Prop := planWordsRow.holds Try.pinned (OpenSpec.ofChange planWordsWrong)

/- THE SECOND FORM. 'bulk': how many values and letters a reading holds, each counted each time it is reached (what is shared counts as often as it is met; a slice's spare places count too). A statement '..UptoSaid' is the law's where the arguments, and the package variables that the reading takes, are together of bulk at most 1048576: NARROWER than '..Said'. Prove '..Said' where nothing that the law and all that it calls make is longer than what came in: it says more and counts as full. Else prove '..UptoSaid'. A law counts once. -/
mutual
def uptoBulk {H : Type} : DataW H → Nat
  | .lit (.string bytes) => bytes.length + 1
  | .lit _ => 1
  | .nil => 1
  | .ptr d => uptoBulk d + 1
  | .slice elems spare => uptoBulkAll elems + uptoBulkAll spare + 1
  | .agg parts => uptoBulkAll parts + 1
  | .iface _ d => uptoBulk d + 1
  | .map entries => uptoBulkEntries entries + 1
  | .held _ => 1
def uptoBulkAll {H : Type} : List (DataW H) → Nat
  | [] => 0
  | d :: r => uptoBulk d + uptoBulkAll r
def uptoBulkEntries {H : Type} : List (Lit × DataW H) → Nat
  | [] => 0
  | x :: r => uptoBulkEntry x + uptoBulkEntries r
def uptoBulkEntry {H : Type} : Lit × DataW H → Nat
  | (.string bytes, d) => bytes.length + uptoBulk d + 1
  | (_, d) => uptoBulk d + 1
 end
def uptoSmall : (H : Type) → List (DataW H) → Bool := fun _ ds => decide (uptoBulkAll ds ≤ 1048576)
def OpenSpec.upto (s : _root_.Go.ChangeSpec) : _root_.Go.OpenSpec := { _root_.Go.OpenSpec.ofChange s with cond := some uptoSmall }

/-- 'countwheellaw28.WordsExplain', WHERE WHAT IT READS IS OF BULK AT MOST 1048576: true; the input reads as it did. -/
def wordsExplainUptoRow : OpenClaim := { program := "ytnniejaknnpcjaa", sum := "5ae3479ffc2ddc0d913c82d2bb437ccf185810fb109babe18366258be5e770d3", func := "countwheel/countwheellaw28.WordsExplain", spec := "wordsExplain", unfollowed := true, recurses := true, plainKeys := false, apart := false, narrowed := true }
def WordsExplainUptoSaid : Prop := wordsExplainUptoRow.holds Try.pinned (OpenSpec.upto wordsExplainSpec)

/-- 'countwheellaw28.WordsCount', WHERE WHAT IT READS IS OF BULK AT MOST 1048576: true; the input reads as it did. -/
def wordsCountUptoRow : OpenClaim := { program := "ytnniejaknnpcjaa", sum := "5ae3479ffc2ddc0d913c82d2bb437ccf185810fb109babe18366258be5e770d3", func := "countwheel/countwheellaw28.WordsCount", spec := "wordsCount", unfollowed := true, recurses := true, plainKeys := false, apart := false, narrowed := true }
def WordsCountUptoSaid : Prop := wordsCountUptoRow.holds Try.pinned (OpenSpec.upto wordsCountSpec)

/-- 'countwheellaw28.WordsRuns', WHERE WHAT IT READS IS OF BULK AT MOST 1048576: true; the input reads as it did. -/
def wordsRunsUptoRow : OpenClaim := { program := "ytnniejaknnpcjaa", sum := "5ae3479ffc2ddc0d913c82d2bb437ccf185810fb109babe18366258be5e770d3", func := "countwheel/countwheellaw28.WordsRuns", spec := "wordsRuns", unfollowed := true, recurses := true, plainKeys := false, apart := false, narrowed := true }
def WordsRunsUptoSaid : Prop := wordsRunsUptoRow.holds Try.pinned (OpenSpec.upto wordsRunsSpec)

/-- 'countwheellaw35.HyperNumbers', WHERE WHAT IT READS IS OF BULK AT MOST 1048576: true; the input reads as it did. -/
def hyperNumbersUptoRow : OpenClaim := { program := "ytnniejaknnpcjaa", sum := "5ae3479ffc2ddc0d913c82d2bb437ccf185810fb109babe18366258be5e770d3", func := "countwheel/countwheellaw35.HyperNumbers", spec := "hyperNumbers", plainKeys := false, apart := false, narrowed := true }
def HyperNumbersUptoSaid : Prop := hyperNumbersUptoRow.holds Try.pinned (OpenSpec.upto hyperNumbersSpec)

/-- 'countwheellaw35.HyperWays', WHERE WHAT IT READS IS OF BULK AT MOST 1048576: true; the input reads as it did. -/
def hyperWaysUptoRow : OpenClaim := { program := "ytnniejaknnpcjaa", sum := "5ae3479ffc2ddc0d913c82d2bb437ccf185810fb109babe18366258be5e770d3", func := "countwheel/countwheellaw35.HyperWays", spec := "hyperWays", recurses := true, plainKeys := false, apart := false, narrowed := true }
def HyperWaysUptoSaid : Prop := hyperWaysUptoRow.holds Try.pinned (OpenSpec.upto hyperWaysSpec)

/-- 'countwheellaw32.PlanBest', WHERE WHAT IT READS IS OF BULK AT MOST 1048576: true; the input reads as it did. -/
def planBestUptoRow : OpenClaim := { program := "ytnniejaknnpcjaa", sum := "5ae3479ffc2ddc0d913c82d2bb437ccf185810fb109babe18366258be5e770d3", func := "countwheel/countwheellaw32.PlanBest", spec := "planBest", unfollowed := true, recurses := true, plainKeys := false, apart := false, narrowed := true }
def PlanBestUptoSaid : Prop := planBestUptoRow.holds Try.pinned (OpenSpec.upto planBestSpec)

/-- 'countwheellaw32.PlanWords', WHERE WHAT IT READS IS OF BULK AT MOST 1048576: true; the input reads as it did. -/
def planWordsUptoRow : OpenClaim := { program := "ytnniejaknnpcjaa", sum := "5ae3479ffc2ddc0d913c82d2bb437ccf185810fb109babe18366258be5e770d3", func := "countwheel/countwheellaw32.PlanWords", spec := "planWords", unfollowed := true, recurses := true, plainKeys := false, apart := false, narrowed := true }
def PlanWordsUptoSaid : Prop := planWordsUptoRow.holds Try.pinned (OpenSpec.upto planWordsSpec)

end Rows
end Go.Proofs.Ytnniejaknnpcjaa
