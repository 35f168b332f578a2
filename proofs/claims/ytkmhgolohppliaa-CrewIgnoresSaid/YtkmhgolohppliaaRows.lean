/-
  No cell of these rows narrows 'for every input' (looked for: loops, veiled, ifaces, maps, wideKeys, modest, calm, conditions, laid).
  DERIVED. THE GIVEN ROWS OF THIS SEAT. 13 by the template 'for every input the law returns true; each argument reads behind the call as it read before'; 0 by the template 'total and deterministic' (their statements: YtkmhgolohppliaaTotals.lean).
  GIVEN WITH THE SEED: the statements are not yours to turn. If you find one false, say at which input.
  Laid BY PROGRAM, IN A SANDBOX (cutbox-rows.mjs): the forced cells as the released guide's own fill.sh prints them over the translation 8fc853f3900b43f7… (all of the seat's roots in one cut). By AI agents, Wed Nov 11 2026. No macro, syntax, notation, axiom, sorry.
-/
import Derived.Test.YtkmhgolohppliaaChecked
import GoSem.Claim
import GoSem.ClaimJoined
import GoSem.ClaimMapViews
import Derived.JoinedTies
import Derived.KernelRfl
namespace Go.Proofs.Ytkmhgolohppliaa
/- THE CELL 'sum', in the pinned program and in every row, IS THE sha256 OF THE DUMP (.gsa) THAT YtkmhgolohppliaaProg.lean LOADS. Nothing in Lean hashes anything: it is a label: what it is worth is what the hold of that sum in a sandbox is worth. -/
noncomputable def Try.pinned : Pinned := { name := "ytkmhgolohppliaa", sum := "8fc853f3900b43f77c336ec3a80a4f17d6810606b4049d0bd3f771dbb443af05", checked := Try.checked }
namespace Rows
def none {H : Type} : Left H := { results := [], args := [] }

/-- 'countwheellaw19.ModePaths': WHATEVER THE INPUT: true; the input reads as it did. -/
def modePathsSpec : ChangeSpec := { name := "modePaths", fn := fun _ => fun
  | [d1, d2] => { results := [.lit (.bool true)], args := [d1, d2] }
  | _ => none }
def modePathsRow : OpenClaim := { program := "ytkmhgolohppliaa", sum := "8fc853f3900b43f77c336ec3a80a4f17d6810606b4049d0bd3f771dbb443af05", func := "countwheel/countwheellaw19.ModePaths", spec := "modePaths", plainKeys := false, apart := false }
def ModePathsSaid : Prop := modePathsRow.holds Try.pinned (OpenSpec.ofChange modePathsSpec)

/-- ITS FALSE NEIGHBOUR: 'it returns false'. Refute it at one input. -/
def modePathsWrong : ChangeSpec := { name := "modePaths", fn := fun _ => fun
  | [d1, d2] => { results := [.lit (.bool false)], args := [d1, d2] }
  | _ => none }
def ModePathsWrongFalsely : Prop := modePathsRow.holds Try.pinned (OpenSpec.ofChange modePathsWrong)

/-- 'countwheellaw19.ModeStarts': WHATEVER THE INPUT: true; the input reads as it did. -/
def modeStartsSpec : ChangeSpec := { name := "modeStarts", fn := fun _ => fun
  | [d1, d2] => { results := [.lit (.bool true)], args := [d1, d2] }
  | _ => none }
def modeStartsRow : OpenClaim := { program := "ytkmhgolohppliaa", sum := "8fc853f3900b43f77c336ec3a80a4f17d6810606b4049d0bd3f771dbb443af05", func := "countwheel/countwheellaw19.ModeStarts", spec := "modeStarts", plainKeys := false, apart := false }
def ModeStartsSaid : Prop := modeStartsRow.holds Try.pinned (OpenSpec.ofChange modeStartsSpec)

/-- ITS FALSE NEIGHBOUR: 'it returns false'. Refute it at one input. -/
def modeStartsWrong : ChangeSpec := { name := "modeStarts", fn := fun _ => fun
  | [d1, d2] => { results := [.lit (.bool false)], args := [d1, d2] }
  | _ => none }
def ModeStartsWrongFalsely : Prop := modeStartsRow.holds Try.pinned (OpenSpec.ofChange modeStartsWrong)

/-- 'countwheellaw20.CellsWarm': WHATEVER THE INPUT: true; the input reads as it did. -/
def cellsWarmSpec : ChangeSpec := { name := "cellsWarm", fn := fun _ => fun
  | [d1, d2] => { results := [.lit (.bool true)], args := [d1, d2] }
  | _ => none }
def cellsWarmRow : OpenClaim := { program := "ytkmhgolohppliaa", sum := "8fc853f3900b43f77c336ec3a80a4f17d6810606b4049d0bd3f771dbb443af05", func := "countwheel/countwheellaw20.CellsWarm", spec := "cellsWarm", unfollowed := true, recurses := true, plainKeys := false, apart := false }
def CellsWarmSaid : Prop := cellsWarmRow.holds Try.pinned (OpenSpec.ofChange cellsWarmSpec)

/-- ITS FALSE NEIGHBOUR: 'it returns false'. Refute it at one input. -/
def cellsWarmWrong : ChangeSpec := { name := "cellsWarm", fn := fun _ => fun
  | [d1, d2] => { results := [.lit (.bool false)], args := [d1, d2] }
  | _ => none }
def CellsWarmWrongFalsely : Prop := cellsWarmRow.holds Try.pinned (OpenSpec.ofChange cellsWarmWrong)

/-- 'countwheellaw20.CellsAgain': WHATEVER THE INPUT: true; the input reads as it did. -/
def cellsAgainSpec : ChangeSpec := { name := "cellsAgain", fn := fun _ => fun
  | [d1, d2, d3] => { results := [.lit (.bool true)], args := [d1, d2, d3] }
  | _ => none }
def cellsAgainRow : OpenClaim := { program := "ytkmhgolohppliaa", sum := "8fc853f3900b43f77c336ec3a80a4f17d6810606b4049d0bd3f771dbb443af05", func := "countwheel/countwheellaw20.CellsAgain", spec := "cellsAgain", unfollowed := true, recurses := true, plainKeys := false, apart := false }
def CellsAgainSaid : Prop := cellsAgainRow.holds Try.pinned (OpenSpec.ofChange cellsAgainSpec)

/-- ITS FALSE NEIGHBOUR: 'it returns false'. Refute it at one input. -/
def cellsAgainWrong : ChangeSpec := { name := "cellsAgain", fn := fun _ => fun
  | [d1, d2, d3] => { results := [.lit (.bool false)], args := [d1, d2, d3] }
  | _ => none }
def CellsAgainWrongFalsely : Prop := cellsAgainRow.holds Try.pinned (OpenSpec.ofChange cellsAgainWrong)

/-- 'countwheellaw20.CellsPlays': WHATEVER THE INPUT: true; the input reads as it did. -/
def cellsPlaysSpec : ChangeSpec := { name := "cellsPlays", fn := fun _ => fun
  | [d1, d2, d3] => { results := [.lit (.bool true)], args := [d1, d2, d3] }
  | _ => none }
def cellsPlaysRow : OpenClaim := { program := "ytkmhgolohppliaa", sum := "8fc853f3900b43f77c336ec3a80a4f17d6810606b4049d0bd3f771dbb443af05", func := "countwheel/countwheellaw20.CellsPlays", spec := "cellsPlays", unfollowed := true, recurses := true, plainKeys := false, apart := false }
def CellsPlaysSaid : Prop := cellsPlaysRow.holds Try.pinned (OpenSpec.ofChange cellsPlaysSpec)

/-- ITS FALSE NEIGHBOUR: 'it returns false'. Refute it at one input. -/
def cellsPlaysWrong : ChangeSpec := { name := "cellsPlays", fn := fun _ => fun
  | [d1, d2, d3] => { results := [.lit (.bool false)], args := [d1, d2, d3] }
  | _ => none }
def CellsPlaysWrongFalsely : Prop := cellsPlaysRow.holds Try.pinned (OpenSpec.ofChange cellsPlaysWrong)

/-- 'countwheellaw21.PartStarts': WHATEVER THE INPUT: true; the input reads as it did. -/
def partStartsSpec : ChangeSpec := { name := "partStarts", fn := fun _ => fun
  | [d1, d2] => { results := [.lit (.bool true)], args := [d1, d2] }
  | _ => none }
def partStartsRow : OpenClaim := { program := "ytkmhgolohppliaa", sum := "8fc853f3900b43f77c336ec3a80a4f17d6810606b4049d0bd3f771dbb443af05", func := "countwheel/countwheellaw21.PartStarts", spec := "partStarts", unfollowed := true, recurses := true, plainKeys := false, apart := false }
def PartStartsSaid : Prop := partStartsRow.holds Try.pinned (OpenSpec.ofChange partStartsSpec)

/-- ITS FALSE NEIGHBOUR: 'it returns false'. Refute it at one input. -/
def partStartsWrong : ChangeSpec := { name := "partStarts", fn := fun _ => fun
  | [d1, d2] => { results := [.lit (.bool false)], args := [d1, d2] }
  | _ => none }
def PartStartsWrongFalsely : Prop := partStartsRow.holds Try.pinned (OpenSpec.ofChange partStartsWrong)

/-- 'countwheellaw21.PartIdle': WHATEVER THE INPUT: true; the input reads as it did. -/
def partIdleSpec : ChangeSpec := { name := "partIdle", fn := fun _ => fun
  | [d1, d2, d3] => { results := [.lit (.bool true)], args := [d1, d2, d3] }
  | _ => none }
def partIdleRow : OpenClaim := { program := "ytkmhgolohppliaa", sum := "8fc853f3900b43f77c336ec3a80a4f17d6810606b4049d0bd3f771dbb443af05", func := "countwheel/countwheellaw21.PartIdle", spec := "partIdle", unfollowed := true, recurses := true, plainKeys := false, apart := false }
def PartIdleSaid : Prop := partIdleRow.holds Try.pinned (OpenSpec.ofChange partIdleSpec)

/-- ITS FALSE NEIGHBOUR: 'it returns false'. Refute it at one input. -/
def partIdleWrong : ChangeSpec := { name := "partIdle", fn := fun _ => fun
  | [d1, d2, d3] => { results := [.lit (.bool false)], args := [d1, d2, d3] }
  | _ => none }
def PartIdleWrongFalsely : Prop := partIdleRow.holds Try.pinned (OpenSpec.ofChange partIdleWrong)

/-- 'countwheellaw21.PartPlays': WHATEVER THE INPUT: true; the input reads as it did. -/
def partPlaysSpec : ChangeSpec := { name := "partPlays", fn := fun _ => fun
  | [d1, d2] => { results := [.lit (.bool true)], args := [d1, d2] }
  | _ => none }
def partPlaysRow : OpenClaim := { program := "ytkmhgolohppliaa", sum := "8fc853f3900b43f77c336ec3a80a4f17d6810606b4049d0bd3f771dbb443af05", func := "countwheel/countwheellaw21.PartPlays", spec := "partPlays", unfollowed := true, recurses := true, plainKeys := false, apart := false }
def PartPlaysSaid : Prop := partPlaysRow.holds Try.pinned (OpenSpec.ofChange partPlaysSpec)

/-- ITS FALSE NEIGHBOUR: 'it returns false'. Refute it at one input. -/
def partPlaysWrong : ChangeSpec := { name := "partPlays", fn := fun _ => fun
  | [d1, d2] => { results := [.lit (.bool false)], args := [d1, d2] }
  | _ => none }
def PartPlaysWrongFalsely : Prop := partPlaysRow.holds Try.pinned (OpenSpec.ofChange partPlaysWrong)

/-- 'countwheellaw22.CrewWithout': WHATEVER THE INPUT: true; the input reads as it did. -/
def crewWithoutSpec : ChangeSpec := { name := "crewWithout", fn := fun _ => fun
  | [d1, d2, d3] => { results := [.lit (.bool true)], args := [d1, d2, d3] }
  | _ => none }
def crewWithoutRow : OpenClaim := { program := "ytkmhgolohppliaa", sum := "8fc853f3900b43f77c336ec3a80a4f17d6810606b4049d0bd3f771dbb443af05", func := "countwheel/countwheellaw22.CrewWithout", spec := "crewWithout", unfollowed := true, recurses := true, plainKeys := false, apart := false }
def CrewWithoutSaid : Prop := crewWithoutRow.holds Try.pinned (OpenSpec.ofChange crewWithoutSpec)

/-- ITS FALSE NEIGHBOUR: 'it returns false'. Refute it at one input. -/
def crewWithoutWrong : ChangeSpec := { name := "crewWithout", fn := fun _ => fun
  | [d1, d2, d3] => { results := [.lit (.bool false)], args := [d1, d2, d3] }
  | _ => none }
def CrewWithoutWrongFalsely : Prop := crewWithoutRow.holds Try.pinned (OpenSpec.ofChange crewWithoutWrong)

/-- 'countwheellaw22.CrewIgnores': WHATEVER THE INPUT: true; the input reads as it did. -/
def crewIgnoresSpec : ChangeSpec := { name := "crewIgnores", fn := fun _ => fun
  | [d1, d2, d3, d4] => { results := [.lit (.bool true)], args := [d1, d2, d3, d4] }
  | _ => none }
def crewIgnoresRow : OpenClaim := { program := "ytkmhgolohppliaa", sum := "8fc853f3900b43f77c336ec3a80a4f17d6810606b4049d0bd3f771dbb443af05", func := "countwheel/countwheellaw22.CrewIgnores", spec := "crewIgnores", unfollowed := true, recurses := true, plainKeys := false, apart := false }
def CrewIgnoresSaid : Prop := crewIgnoresRow.holds Try.pinned (OpenSpec.ofChange crewIgnoresSpec)

/-- ITS FALSE NEIGHBOUR: 'it returns false'. Refute it at one input. -/
def crewIgnoresWrong : ChangeSpec := { name := "crewIgnores", fn := fun _ => fun
  | [d1, d2, d3, d4] => { results := [.lit (.bool false)], args := [d1, d2, d3, d4] }
  | _ => none }
def CrewIgnoresWrongFalsely : Prop := crewIgnoresRow.holds Try.pinned (OpenSpec.ofChange crewIgnoresWrong)

/-- 'countwheellaw22.CrewPlays': WHATEVER THE INPUT: true; the input reads as it did. -/
def crewPlaysSpec : ChangeSpec := { name := "crewPlays", fn := fun _ => fun
  | [d1, d2, d3] => { results := [.lit (.bool true)], args := [d1, d2, d3] }
  | _ => none }
def crewPlaysRow : OpenClaim := { program := "ytkmhgolohppliaa", sum := "8fc853f3900b43f77c336ec3a80a4f17d6810606b4049d0bd3f771dbb443af05", func := "countwheel/countwheellaw22.CrewPlays", spec := "crewPlays", unfollowed := true, recurses := true, plainKeys := false, apart := false }
def CrewPlaysSaid : Prop := crewPlaysRow.holds Try.pinned (OpenSpec.ofChange crewPlaysSpec)

/-- ITS FALSE NEIGHBOUR: 'it returns false'. Refute it at one input. -/
def crewPlaysWrong : ChangeSpec := { name := "crewPlays", fn := fun _ => fun
  | [d1, d2, d3] => { results := [.lit (.bool false)], args := [d1, d2, d3] }
  | _ => none }
def CrewPlaysWrongFalsely : Prop := crewPlaysRow.holds Try.pinned (OpenSpec.ofChange crewPlaysWrong)

/-- 'countwheellaw39.HealthPlays': WHATEVER THE INPUT: true; the input reads as it did. -/
def healthPlaysSpec : ChangeSpec := { name := "healthPlays", fn := fun _ => fun
  | [d1, d2, d3] => { results := [.lit (.bool true)], args := [d1, d2, d3] }
  | _ => none }
def healthPlaysRow : OpenClaim := { program := "ytkmhgolohppliaa", sum := "8fc853f3900b43f77c336ec3a80a4f17d6810606b4049d0bd3f771dbb443af05", func := "countwheel/countwheellaw39.HealthPlays", spec := "healthPlays", unfollowed := true, recurses := true, plainKeys := false, apart := false }
def HealthPlaysSaid : Prop := healthPlaysRow.holds Try.pinned (OpenSpec.ofChange healthPlaysSpec)

/-- ITS FALSE NEIGHBOUR: 'it returns false'. Refute it at one input. -/
def healthPlaysWrong : ChangeSpec := { name := "healthPlays", fn := fun _ => fun
  | [d1, d2, d3] => { results := [.lit (.bool false)], args := [d1, d2, d3] }
  | _ => none }
def HealthPlaysWrongFalsely : Prop := healthPlaysRow.holds Try.pinned (OpenSpec.ofChange healthPlaysWrong)

/-- 'countwheellaw39.HealthStops': WHATEVER THE INPUT: true; the input reads as it did. -/
def healthStopsSpec : ChangeSpec := { name := "healthStops", fn := fun _ => fun
  | [d1, d2, d3, d4] => { results := [.lit (.bool true)], args := [d1, d2, d3, d4] }
  | _ => none }
def healthStopsRow : OpenClaim := { program := "ytkmhgolohppliaa", sum := "8fc853f3900b43f77c336ec3a80a4f17d6810606b4049d0bd3f771dbb443af05", func := "countwheel/countwheellaw39.HealthStops", spec := "healthStops", unfollowed := true, recurses := true, plainKeys := false, apart := false }
def HealthStopsSaid : Prop := healthStopsRow.holds Try.pinned (OpenSpec.ofChange healthStopsSpec)

/-- ITS FALSE NEIGHBOUR: 'it returns false'. Refute it at one input. -/
def healthStopsWrong : ChangeSpec := { name := "healthStops", fn := fun _ => fun
  | [d1, d2, d3, d4] => { results := [.lit (.bool false)], args := [d1, d2, d3, d4] }
  | _ => none }
def HealthStopsWrongFalsely : Prop := healthStopsRow.holds Try.pinned (OpenSpec.ofChange healthStopsWrong)

/- THE SECOND FORM. 'bulk': how many values and letters a reading holds, each counted each time it is reached (what is shared counts as often as it is met; a slice's spare places count too). A statement '..UptoSaid' is the law's where the arguments, and the package variables that the reading takes, are together of bulk at most 1048576: NARROWER than '..Said'. Prove '..Said' where nothing that the law and all that it calls make is longer than what came in: it says more and counts as full. Else prove '..UptoSaid'. A law counts once. -/
mutual
def uptoBulk {H : Type} : DataW H → Nat
  | .lit (.string bytes) => bytes.length + 1
  | .lit _ => 1
  | .nil => 1
  | .ptr d => uptoBulk d + 1
  | .slice elems spare => uptoBulkAll elems + uptoBulkAll spare + 1
  | .agg parts => uptoBulkAll parts + 1
  | .iface _ d => uptoBulk d + 1
  | .map entries => uptoBulkEntries entries + 1
  | .held _ => 1
def uptoBulkAll {H : Type} : List (DataW H) → Nat
  | [] => 0
  | d :: r => uptoBulk d + uptoBulkAll r
def uptoBulkEntries {H : Type} : List (Lit × DataW H) → Nat
  | [] => 0
  | x :: r => uptoBulkEntry x + uptoBulkEntries r
def uptoBulkEntry {H : Type} : Lit × DataW H → Nat
  | (.string bytes, d) => bytes.length + uptoBulk d + 1
  | (_, d) => uptoBulk d + 1
 end
def uptoSmall : (H : Type) → List (DataW H) → Bool := fun _ ds => decide (uptoBulkAll ds ≤ 1048576)
def OpenSpec.upto (s : _root_.Go.ChangeSpec) : _root_.Go.OpenSpec := { _root_.Go.OpenSpec.ofChange s with cond := some uptoSmall }

/-- 'countwheellaw19.ModePaths', WHERE WHAT IT READS IS OF BULK AT MOST 1048576: true; the input reads as it did. -/
def modePathsUptoRow : OpenClaim := { program := "ytkmhgolohppliaa", sum := "8fc853f3900b43f77c336ec3a80a4f17d6810606b4049d0bd3f771dbb443af05", func := "countwheel/countwheellaw19.ModePaths", spec := "modePaths", plainKeys := false, apart := false, narrowed := true }
def ModePathsUptoSaid : Prop := modePathsUptoRow.holds Try.pinned (OpenSpec.upto modePathsSpec)

/-- 'countwheellaw19.ModeStarts', WHERE WHAT IT READS IS OF BULK AT MOST 1048576: true; the input reads as it did. -/
def modeStartsUptoRow : OpenClaim := { program := "ytkmhgolohppliaa", sum := "8fc853f3900b43f77c336ec3a80a4f17d6810606b4049d0bd3f771dbb443af05", func := "countwheel/countwheellaw19.ModeStarts", spec := "modeStarts", plainKeys := false, apart := false, narrowed := true }
def ModeStartsUptoSaid : Prop := modeStartsUptoRow.holds Try.pinned (OpenSpec.upto modeStartsSpec)

/-- 'countwheellaw20.CellsWarm', WHERE WHAT IT READS IS OF BULK AT MOST 1048576: true; the input reads as it did. -/
def cellsWarmUptoRow : OpenClaim := { program := "ytkmhgolohppliaa", sum := "8fc853f3900b43f77c336ec3a80a4f17d6810606b4049d0bd3f771dbb443af05", func := "countwheel/countwheellaw20.CellsWarm", spec := "cellsWarm", unfollowed := true, recurses := true, plainKeys := false, apart := false, narrowed := true }
def CellsWarmUptoSaid : Prop := cellsWarmUptoRow.holds Try.pinned (OpenSpec.upto cellsWarmSpec)

/-- 'countwheellaw20.CellsAgain', WHERE WHAT IT READS IS OF BULK AT MOST 1048576: true; the input reads as it did. -/
def cellsAgainUptoRow : OpenClaim := { program := "ytkmhgolohppliaa", sum := "8fc853f3900b43f77c336ec3a80a4f17d6810606b4049d0bd3f771dbb443af05", func := "countwheel/countwheellaw20.CellsAgain", spec := "cellsAgain", unfollowed := true, recurses := true, plainKeys := false, apart := false, narrowed := true }
def CellsAgainUptoSaid : Prop := cellsAgainUptoRow.holds Try.pinned (OpenSpec.upto cellsAgainSpec)

/-- 'countwheellaw20.CellsPlays', WHERE WHAT IT READS IS OF BULK AT MOST 1048576: true; the input reads as it did. -/
def cellsPlaysUptoRow : OpenClaim := { program := "ytkmhgolohppliaa", sum := "8fc853f3900b43f77c336ec3a80a4f17d6810606b4049d0bd3f771dbb443af05", func := "countwheel/countwheellaw20.CellsPlays", spec := "cellsPlays", unfollowed := true, recurses := true, plainKeys := false, apart := false, narrowed := true }
def CellsPlaysUptoSaid : Prop := cellsPlaysUptoRow.holds Try.pinned (OpenSpec.upto cellsPlaysSpec)

/-- 'countwheellaw21.PartStarts', WHERE WHAT IT READS IS OF BULK AT MOST 1048576: true; the input reads as it did. -/
def partStartsUptoRow : OpenClaim := { program := "ytkmhgolohppliaa", sum := "8fc853f3900b43f77c336ec3a80a4f17d6810606b4049d0bd3f771dbb443af05", func := "countwheel/countwheellaw21.PartStarts", spec := "partStarts", unfollowed := true, recurses := true, plainKeys := false, apart := false, narrowed := true }
def PartStartsUptoSaid : Prop := partStartsUptoRow.holds Try.pinned (OpenSpec.upto partStartsSpec)

/-- 'countwheellaw21.PartIdle', WHERE WHAT IT READS IS OF BULK AT MOST 1048576: true; the input reads as it did. -/
def partIdleUptoRow : OpenClaim := { program := "ytkmhgolohppliaa", sum := "8fc853f3900b43f77c336ec3a80a4f17d6810606b4049d0bd3f771dbb443af05", func := "countwheel/countwheellaw21.PartIdle", spec := "partIdle", unfollowed := true, recurses := true, plainKeys := false, apart := false, narrowed := true }
def PartIdleUptoSaid : Prop := partIdleUptoRow.holds Try.pinned (OpenSpec.upto partIdleSpec)

/-- 'countwheellaw21.PartPlays', WHERE WHAT IT READS IS OF BULK AT MOST 1048576: true; the input reads as it did. -/
def partPlaysUptoRow : OpenClaim := { program := "ytkmhgolohppliaa", sum := "8fc853f3900b43f77c336ec3a80a4f17d6810606b4049d0bd3f771dbb443af05", func := "countwheel/countwheellaw21.PartPlays", spec := "partPlays", unfollowed := true, recurses := true, plainKeys := false, apart := false, narrowed := true }
def PartPlaysUptoSaid : Prop := partPlaysUptoRow.holds Try.pinned (OpenSpec.upto partPlaysSpec)

/-- 'countwheellaw22.CrewWithout', WHERE WHAT IT READS IS OF BULK AT MOST 1048576: true; the input reads as it did. -/
def crewWithoutUptoRow : OpenClaim := { program := "ytkmhgolohppliaa", sum := "8fc853f3900b43f77c336ec3a80a4f17d6810606b4049d0bd3f771dbb443af05", func := "countwheel/countwheellaw22.CrewWithout", spec := "crewWithout", unfollowed := true, recurses := true, plainKeys := false, apart := false, narrowed := true }
def CrewWithoutUptoSaid : Prop := crewWithoutUptoRow.holds Try.pinned (OpenSpec.upto crewWithoutSpec)

/-- 'countwheellaw22.CrewIgnores', WHERE WHAT IT READS IS OF BULK AT MOST 1048576: true; the input reads as it did. -/
def crewIgnoresUptoRow : OpenClaim := { program := "ytkmhgolohppliaa", sum := "8fc853f3900b43f77c336ec3a80a4f17d6810606b4049d0bd3f771dbb443af05", func := "countwheel/countwheellaw22.CrewIgnores", spec := "crewIgnores", unfollowed := true, recurses := true, plainKeys := false, apart := false, narrowed := true }
def CrewIgnoresUptoSaid : Prop := crewIgnoresUptoRow.holds Try.pinned (OpenSpec.upto crewIgnoresSpec)

/-- 'countwheellaw22.CrewPlays', WHERE WHAT IT READS IS OF BULK AT MOST 1048576: true; the input reads as it did. -/
def crewPlaysUptoRow : OpenClaim := { program := "ytkmhgolohppliaa", sum := "8fc853f3900b43f77c336ec3a80a4f17d6810606b4049d0bd3f771dbb443af05", func := "countwheel/countwheellaw22.CrewPlays", spec := "crewPlays", unfollowed := true, recurses := true, plainKeys := false, apart := false, narrowed := true }
def CrewPlaysUptoSaid : Prop := crewPlaysUptoRow.holds Try.pinned (OpenSpec.upto crewPlaysSpec)

/-- 'countwheellaw39.HealthPlays', WHERE WHAT IT READS IS OF BULK AT MOST 1048576: true; the input reads as it did. -/
def healthPlaysUptoRow : OpenClaim := { program := "ytkmhgolohppliaa", sum := "8fc853f3900b43f77c336ec3a80a4f17d6810606b4049d0bd3f771dbb443af05", func := "countwheel/countwheellaw39.HealthPlays", spec := "healthPlays", unfollowed := true, recurses := true, plainKeys := false, apart := false, narrowed := true }
def HealthPlaysUptoSaid : Prop := healthPlaysUptoRow.holds Try.pinned (OpenSpec.upto healthPlaysSpec)

/-- 'countwheellaw39.HealthStops', WHERE WHAT IT READS IS OF BULK AT MOST 1048576: true; the input reads as it did. -/
def healthStopsUptoRow : OpenClaim := { program := "ytkmhgolohppliaa", sum := "8fc853f3900b43f77c336ec3a80a4f17d6810606b4049d0bd3f771dbb443af05", func := "countwheel/countwheellaw39.HealthStops", spec := "healthStops", unfollowed := true, recurses := true, plainKeys := false, apart := false, narrowed := true }
def HealthStopsUptoSaid : Prop := healthStopsUptoRow.holds Try.pinned (OpenSpec.upto healthStopsSpec)

end Rows
end Go.Proofs.Ytkmhgolohppliaa
