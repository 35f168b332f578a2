/-
  No cell of these rows narrows 'for every input' (looked for: loops, veiled, ifaces, maps, wideKeys, modest, calm, conditions, laid).
  DERIVED. THE GIVEN ROWS OF THIS SEAT. 7 by the template 'for every input the law returns true; each argument reads behind the call as it read before'; 0 by the template 'total and deterministic' (their statements: YtnpjbdaaoknkbaaTotals.lean).
  GIVEN WITH THE SEED: the statements are not yours to turn. If you find one false, say at which input.
  Laid BY PROGRAM, IN A SANDBOX (cutbox-rows.mjs): the forced cells as the released guide's own fill.sh prints them over the translation 629e3d57763e9d58… (all of the seat's roots in one cut). By AI agents, Wed Nov 11 2026. No macro, syntax, notation, axiom, sorry.
-/
import Derived.Test.YtnpjbdaaoknkbaaChecked
import GoSem.Claim
import GoSem.ClaimJoined
import GoSem.ClaimMapViews
import Derived.JoinedTies
import Derived.KernelRfl
namespace Go.Proofs.Ytnpjbdaaoknkbaa
/- THE CELL 'sum', in the pinned program and in every row, IS THE sha256 OF THE DUMP (.gsa) THAT YtnpjbdaaoknkbaaProg.lean LOADS. Nothing in Lean hashes anything: it is a label: what it is worth is what the hold of that sum in a sandbox is worth. -/
noncomputable def Try.pinned : Pinned := { name := "ytnpjbdaaoknkbaa", sum := "629e3d57763e9d58e51b9ede1f1d1dba53515734e5ba45e2426165c4cf1f5dfd", checked := Try.checked }
namespace Rows
def none {H : Type} : Left H := { results := [], args := [] }

/-- 'countwheellaw17.TableFrames': WHATEVER THE INPUT: true; the input reads as it did. -/
def tableFramesSpec : ChangeSpec := { name := "tableFrames", fn := fun _ => fun
  | [d] => { results := [.lit (.bool true)], args := [d] }
  | _ => none }
def tableFramesRow : OpenClaim := { program := "ytnpjbdaaoknkbaa", sum := "629e3d57763e9d58e51b9ede1f1d1dba53515734e5ba45e2426165c4cf1f5dfd", func := "countwheel/countwheellaw17.TableFrames", spec := "tableFrames", unfollowed := true, recurses := true, apart := false }
def TableFramesSaid : Prop := tableFramesRow.holds Try.pinned (OpenSpec.ofChange tableFramesSpec)

/-- ITS FALSE NEIGHBOUR: 'it returns false'. Refute it at one input. -/
def tableFramesWrong : ChangeSpec := { name := "tableFrames", fn := fun _ => fun
  | [d] => { results := [.lit (.bool false)], args := [d] }
  | _ => none }
def TableFramesWrongFalsely : Prop := tableFramesRow.holds Try.pinned (OpenSpec.ofChange tableFramesWrong)

/-- 'countwheellaw18.FrameHalts': WHATEVER THE INPUT: true; the input reads as it did. -/
def frameHaltsSpec : ChangeSpec := { name := "frameHalts", fn := fun _ => fun
  | [d1, d2, d3, d4] => { results := [.lit (.bool true)], args := [d1, d2, d3, d4] }
  | _ => none }
def frameHaltsRow : OpenClaim := { program := "ytnpjbdaaoknkbaa", sum := "629e3d57763e9d58e51b9ede1f1d1dba53515734e5ba45e2426165c4cf1f5dfd", func := "countwheel/countwheellaw18.FrameHalts", spec := "frameHalts", apart := false }
def FrameHaltsSaid : Prop := frameHaltsRow.holds Try.pinned (OpenSpec.ofChange frameHaltsSpec)

/-- ITS FALSE NEIGHBOUR: 'it returns false'. Refute it at one input. -/
def frameHaltsWrong : ChangeSpec := { name := "frameHalts", fn := fun _ => fun
  | [d1, d2, d3, d4] => { results := [.lit (.bool false)], args := [d1, d2, d3, d4] }
  | _ => none }
def FrameHaltsWrongFalsely : Prop := frameHaltsRow.holds Try.pinned (OpenSpec.ofChange frameHaltsWrong)

/-- 'countwheellaw18.FrameWords': WHATEVER THE INPUT: true; the input reads as it did. -/
def frameWordsSpec : ChangeSpec := { name := "frameWords", fn := fun _ => fun
  | [d1, d2, d3] => { results := [.lit (.bool true)], args := [d1, d2, d3] }
  | _ => none }
def frameWordsRow : OpenClaim := { program := "ytnpjbdaaoknkbaa", sum := "629e3d57763e9d58e51b9ede1f1d1dba53515734e5ba45e2426165c4cf1f5dfd", func := "countwheel/countwheellaw18.FrameWords", spec := "frameWords", apart := false }
def FrameWordsSaid : Prop := frameWordsRow.holds Try.pinned (OpenSpec.ofChange frameWordsSpec)

/-- ITS FALSE NEIGHBOUR: 'it returns false'. Refute it at one input. -/
def frameWordsWrong : ChangeSpec := { name := "frameWords", fn := fun _ => fun
  | [d1, d2, d3] => { results := [.lit (.bool false)], args := [d1, d2, d3] }
  | _ => none }
def FrameWordsWrongFalsely : Prop := frameWordsRow.holds Try.pinned (OpenSpec.ofChange frameWordsWrong)

/-- 'countwheellaw18.FramePlays': WHATEVER THE INPUT: true; the input reads as it did. -/
def framePlaysSpec : ChangeSpec := { name := "framePlays", fn := fun _ => fun
  | [d1, d2, d3, d4, d5] => { results := [.lit (.bool true)], args := [d1, d2, d3, d4, d5] }
  | _ => none }
def framePlaysRow : OpenClaim := { program := "ytnpjbdaaoknkbaa", sum := "629e3d57763e9d58e51b9ede1f1d1dba53515734e5ba45e2426165c4cf1f5dfd", func := "countwheel/countwheellaw18.FramePlays", spec := "framePlays", apart := false }
def FramePlaysSaid : Prop := framePlaysRow.holds Try.pinned (OpenSpec.ofChange framePlaysSpec)

/-- ITS FALSE NEIGHBOUR: 'it returns false'. Refute it at one input. -/
def framePlaysWrong : ChangeSpec := { name := "framePlays", fn := fun _ => fun
  | [d1, d2, d3, d4, d5] => { results := [.lit (.bool false)], args := [d1, d2, d3, d4, d5] }
  | _ => none }
def FramePlaysWrongFalsely : Prop := framePlaysRow.holds Try.pinned (OpenSpec.ofChange framePlaysWrong)

/-- 'countwheellaw33.ShiftBack': WHATEVER THE INPUT: true; the input reads as it did. -/
def shiftBackSpec : ChangeSpec := { name := "shiftBack", fn := fun _ => fun
  | [d1, d2] => { results := [.lit (.bool true)], args := [d1, d2] }
  | _ => none }
def shiftBackRow : OpenClaim := { program := "ytnpjbdaaoknkbaa", sum := "629e3d57763e9d58e51b9ede1f1d1dba53515734e5ba45e2426165c4cf1f5dfd", func := "countwheel/countwheellaw33.ShiftBack", spec := "shiftBack", unfollowed := true, recurses := true, apart := false }
def ShiftBackSaid : Prop := shiftBackRow.holds Try.pinned (OpenSpec.ofChange shiftBackSpec)

/-- ITS FALSE NEIGHBOUR: 'it returns false'. Refute it at one input. -/
def shiftBackWrong : ChangeSpec := { name := "shiftBack", fn := fun _ => fun
  | [d1, d2] => { results := [.lit (.bool false)], args := [d1, d2] }
  | _ => none }
def ShiftBackWrongFalsely : Prop := shiftBackRow.holds Try.pinned (OpenSpec.ofChange shiftBackWrong)

/-- 'countwheellaw33.ShiftTurns': WHATEVER THE INPUT: true; the input reads as it did. -/
def shiftTurnsSpec : ChangeSpec := { name := "shiftTurns", fn := fun _ => fun
  | [d1, d2, d3, d4] => { results := [.lit (.bool true)], args := [d1, d2, d3, d4] }
  | _ => none }
def shiftTurnsRow : OpenClaim := { program := "ytnpjbdaaoknkbaa", sum := "629e3d57763e9d58e51b9ede1f1d1dba53515734e5ba45e2426165c4cf1f5dfd", func := "countwheel/countwheellaw33.ShiftTurns", spec := "shiftTurns", unfollowed := true, recurses := true, apart := false }
def ShiftTurnsSaid : Prop := shiftTurnsRow.holds Try.pinned (OpenSpec.ofChange shiftTurnsSpec)

/-- ITS FALSE NEIGHBOUR: 'it returns false'. Refute it at one input. -/
def shiftTurnsWrong : ChangeSpec := { name := "shiftTurns", fn := fun _ => fun
  | [d1, d2, d3, d4] => { results := [.lit (.bool false)], args := [d1, d2, d3, d4] }
  | _ => none }
def ShiftTurnsWrongFalsely : Prop := shiftTurnsRow.holds Try.pinned (OpenSpec.ofChange shiftTurnsWrong)

/-- 'countwheellaw33.ShiftGrows': WHATEVER THE INPUT: true; the input reads as it did. -/
def shiftGrowsSpec : ChangeSpec := { name := "shiftGrows", fn := fun _ => fun
  | [d1, d2, d3] => { results := [.lit (.bool true)], args := [d1, d2, d3] }
  | _ => none }
def shiftGrowsRow : OpenClaim := { program := "ytnpjbdaaoknkbaa", sum := "629e3d57763e9d58e51b9ede1f1d1dba53515734e5ba45e2426165c4cf1f5dfd", func := "countwheel/countwheellaw33.ShiftGrows", spec := "shiftGrows", unfollowed := true, recurses := true, apart := false }
def ShiftGrowsSaid : Prop := shiftGrowsRow.holds Try.pinned (OpenSpec.ofChange shiftGrowsSpec)

/-- ITS FALSE NEIGHBOUR: 'it returns false'. Refute it at one input. -/
def shiftGrowsWrong : ChangeSpec := { name := "shiftGrows", fn := fun _ => fun
  | [d1, d2, d3] => { results := [.lit (.bool false)], args := [d1, d2, d3] }
  | _ => none }
def ShiftGrowsWrongFalsely : Prop := shiftGrowsRow.holds Try.pinned (OpenSpec.ofChange shiftGrowsWrong)

/- THE SECOND FORM. 'bulk': how many values and letters a reading holds, each counted each time it is reached (what is shared counts as often as it is met; a slice's spare places count too). A statement '..UptoSaid' is the law's where the arguments, and the package variables that the reading takes, are together of bulk at most 1048576: NARROWER than '..Said'. Prove '..Said' where nothing that the law and all that it calls make is longer than what came in: it says more and counts as full. Else prove '..UptoSaid'. A law counts once. -/
mutual
def uptoBulk {H : Type} : DataW H → Nat
  | .lit (.string bytes) => bytes.length + 1
  | .lit _ => 1
  | .nil => 1
  | .ptr d => uptoBulk d + 1
  | .slice elems spare => uptoBulkAll elems + uptoBulkAll spare + 1
  | .agg parts => uptoBulkAll parts + 1
  | .iface _ d => uptoBulk d + 1
  | .map entries => uptoBulkEntries entries + 1
  | .held _ => 1
def uptoBulkAll {H : Type} : List (DataW H) → Nat
  | [] => 0
  | d :: r => uptoBulk d + uptoBulkAll r
def uptoBulkEntries {H : Type} : List (Lit × DataW H) → Nat
  | [] => 0
  | x :: r => uptoBulkEntry x + uptoBulkEntries r
def uptoBulkEntry {H : Type} : Lit × DataW H → Nat
  | (.string bytes, d) => bytes.length + uptoBulk d + 1
  | (_, d) => uptoBulk d + 1
 end
def uptoSmall : (H : Type) → List (DataW H) → Bool := fun _ ds => decide (uptoBulkAll ds ≤ 1048576)
def OpenSpec.upto (s : _root_.Go.ChangeSpec) : _root_.Go.OpenSpec := { _root_.Go.OpenSpec.ofChange s with cond := some uptoSmall }

/-- 'countwheellaw17.TableFrames', WHERE WHAT IT READS IS OF BULK AT MOST 1048576: true; the input reads as it did. -/
def tableFramesUptoRow : OpenClaim := { program := "ytnpjbdaaoknkbaa", sum := "629e3d57763e9d58e51b9ede1f1d1dba53515734e5ba45e2426165c4cf1f5dfd", func := "countwheel/countwheellaw17.TableFrames", spec := "tableFrames", unfollowed := true, recurses := true, apart := false, narrowed := true }
def TableFramesUptoSaid : Prop := tableFramesUptoRow.holds Try.pinned (OpenSpec.upto tableFramesSpec)

/-- 'countwheellaw18.FrameHalts', WHERE WHAT IT READS IS OF BULK AT MOST 1048576: true; the input reads as it did. -/
def frameHaltsUptoRow : OpenClaim := { program := "ytnpjbdaaoknkbaa", sum := "629e3d57763e9d58e51b9ede1f1d1dba53515734e5ba45e2426165c4cf1f5dfd", func := "countwheel/countwheellaw18.FrameHalts", spec := "frameHalts", apart := false, narrowed := true }
def FrameHaltsUptoSaid : Prop := frameHaltsUptoRow.holds Try.pinned (OpenSpec.upto frameHaltsSpec)

/-- 'countwheellaw18.FrameWords', WHERE WHAT IT READS IS OF BULK AT MOST 1048576: true; the input reads as it did. -/
def frameWordsUptoRow : OpenClaim := { program := "ytnpjbdaaoknkbaa", sum := "629e3d57763e9d58e51b9ede1f1d1dba53515734e5ba45e2426165c4cf1f5dfd", func := "countwheel/countwheellaw18.FrameWords", spec := "frameWords", apart := false, narrowed := true }
def FrameWordsUptoSaid : Prop := frameWordsUptoRow.holds Try.pinned (OpenSpec.upto frameWordsSpec)

/-- 'countwheellaw18.FramePlays', WHERE WHAT IT READS IS OF BULK AT MOST 1048576: true; the input reads as it did. -/
def framePlaysUptoRow : OpenClaim := { program := "ytnpjbdaaoknkbaa", sum := "629e3d57763e9d58e51b9ede1f1d1dba53515734e5ba45e2426165c4cf1f5dfd", func := "countwheel/countwheellaw18.FramePlays", spec := "framePlays", apart := false, narrowed := true }
def FramePlaysUptoSaid : Prop := framePlaysUptoRow.holds Try.pinned (OpenSpec.upto framePlaysSpec)

/-- 'countwheellaw33.ShiftBack', WHERE WHAT IT READS IS OF BULK AT MOST 1048576: true; the input reads as it did. -/
def shiftBackUptoRow : OpenClaim := { program := "ytnpjbdaaoknkbaa", sum := "629e3d57763e9d58e51b9ede1f1d1dba53515734e5ba45e2426165c4cf1f5dfd", func := "countwheel/countwheellaw33.ShiftBack", spec := "shiftBack", unfollowed := true, recurses := true, apart := false, narrowed := true }
def ShiftBackUptoSaid : Prop := shiftBackUptoRow.holds Try.pinned (OpenSpec.upto shiftBackSpec)

/-- 'countwheellaw33.ShiftTurns', WHERE WHAT IT READS IS OF BULK AT MOST 1048576: true; the input reads as it did. -/
def shiftTurnsUptoRow : OpenClaim := { program := "ytnpjbdaaoknkbaa", sum := "629e3d57763e9d58e51b9ede1f1d1dba53515734e5ba45e2426165c4cf1f5dfd", func := "countwheel/countwheellaw33.ShiftTurns", spec := "shiftTurns", unfollowed := true, recurses := true, apart := false, narrowed := true }
def ShiftTurnsUptoSaid : Prop := shiftTurnsUptoRow.holds Try.pinned (OpenSpec.upto shiftTurnsSpec)

/-- 'countwheellaw33.ShiftGrows', WHERE WHAT IT READS IS OF BULK AT MOST 1048576: true; the input reads as it did. -/
def shiftGrowsUptoRow : OpenClaim := { program := "ytnpjbdaaoknkbaa", sum := "629e3d57763e9d58e51b9ede1f1d1dba53515734e5ba45e2426165c4cf1f5dfd", func := "countwheel/countwheellaw33.ShiftGrows", spec := "shiftGrows", unfollowed := true, recurses := true, apart := false, narrowed := true }
def ShiftGrowsUptoSaid : Prop := shiftGrowsUptoRow.holds Try.pinned (OpenSpec.upto shiftGrowsSpec)

end Rows
end Go.Proofs.Ytnpjbdaaoknkbaa
