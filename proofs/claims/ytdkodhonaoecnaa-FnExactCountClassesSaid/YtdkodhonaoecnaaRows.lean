/-
  No cell of these rows narrows 'for every input' (looked for: loops, veiled, ifaces, maps, wideKeys, modest, calm, conditions, laid).
  DERIVED. THE GIVEN ROWS OF THIS SEAT. 12 by the template 'for every input the law returns true; each argument reads behind the call as it read before'; 0 by the template 'total and deterministic' (their statements: YtdkodhonaoecnaaTotals.lean).
  GIVEN WITH THE SEED: the statements are not yours to turn. If you find one false, say at which input.
  Laid BY PROGRAM, IN A SANDBOX (cutbox-rows.mjs): the forced cells as the released guide's own fill.sh prints them over the translation f86ede25e348a750… (all of the seat's roots in one cut). By AI agents, Wed Nov 11 2026. No macro, syntax, notation, axiom, sorry.
-/
import Derived.Test.YtdkodhonaoecnaaChecked
import GoSem.Claim
import GoSem.ClaimJoined
import GoSem.ClaimMapViews
import Derived.JoinedTies
import Derived.KernelRfl
namespace Go.Proofs.Ytdkodhonaoecnaa
/- THE CELL 'sum', in the pinned program and in every row, IS THE sha256 OF THE DUMP (.gsa) THAT YtdkodhonaoecnaaProg.lean LOADS. Nothing in Lean hashes anything: it is a label: what it is worth is what the hold of that sum in a sandbox is worth. -/
noncomputable def Try.pinned : Pinned := { name := "ytdkodhonaoecnaa", sum := "f86ede25e348a7504bbbb1cac2d7256d67777974bd5735ef65ed2d09598065de", checked := Try.checked }
namespace Rows
def none {H : Type} : Left H := { results := [], args := [] }

/-- 'laws.FnExactCountClasses': WHATEVER THE INPUT: true; the input reads as it did. -/
def fnExactCountClassesSpec : ChangeSpec := { name := "fnExactCountClasses", fn := fun _ => fun
  | [d1, d2] => { results := [.lit (.bool true)], args := [d1, d2] }
  | _ => none }
def fnExactCountClassesRow : OpenClaim := { program := "ytdkodhonaoecnaa", sum := "f86ede25e348a7504bbbb1cac2d7256d67777974bd5735ef65ed2d09598065de", func := "loop.example/g01362/laws.FnExactCountClasses", spec := "fnExactCountClasses", recurses := true, apart := false }
def FnExactCountClassesSaid : Prop := fnExactCountClassesRow.holds Try.pinned (OpenSpec.ofChange fnExactCountClassesSpec)

/-- ITS FALSE NEIGHBOUR: 'it returns false'. Refute it at one input. -/
def fnExactCountClassesWrong : ChangeSpec := { name := "fnExactCountClasses", fn := fun _ => fun
  | [d1, d2] => { results := [.lit (.bool false)], args := [d1, d2] }
  | _ => none }
def FnExactCountClassesWrongFalsely : Prop := fnExactCountClassesRow.holds Try.pinned (OpenSpec.ofChange fnExactCountClassesWrong)

/-- 'laws.FnExactCircularOf': WHATEVER THE INPUT: true; the input reads as it did. -/
def fnExactCircularOfSpec : ChangeSpec := { name := "fnExactCircularOf", fn := fun _ => fun
  | [d1, d2, d3] => { results := [.lit (.bool true)], args := [d1, d2, d3] }
  | _ => none }
def fnExactCircularOfRow : OpenClaim := { program := "ytdkodhonaoecnaa", sum := "f86ede25e348a7504bbbb1cac2d7256d67777974bd5735ef65ed2d09598065de", func := "loop.example/g01362/laws.FnExactCircularOf", spec := "fnExactCircularOf", unfollowed := true, recurses := true, apart := false }
def FnExactCircularOfSaid : Prop := fnExactCircularOfRow.holds Try.pinned (OpenSpec.ofChange fnExactCircularOfSpec)

/-- ITS FALSE NEIGHBOUR: 'it returns false'. Refute it at one input. -/
def fnExactCircularOfWrong : ChangeSpec := { name := "fnExactCircularOf", fn := fun _ => fun
  | [d1, d2, d3] => { results := [.lit (.bool false)], args := [d1, d2, d3] }
  | _ => none }
def FnExactCircularOfWrongFalsely : Prop := fnExactCircularOfRow.holds Try.pinned (OpenSpec.ofChange fnExactCircularOfWrong)

/-- 'laws.FnExactGreatestFree': WHATEVER THE INPUT: true; the input reads as it did. -/
def fnExactGreatestFreeSpec : ChangeSpec := { name := "fnExactGreatestFree", fn := fun _ => fun
  | [d1, d2] => { results := [.lit (.bool true)], args := [d1, d2] }
  | _ => none }
def fnExactGreatestFreeRow : OpenClaim := { program := "ytdkodhonaoecnaa", sum := "f86ede25e348a7504bbbb1cac2d7256d67777974bd5735ef65ed2d09598065de", func := "loop.example/g01362/laws.FnExactGreatestFree", spec := "fnExactGreatestFree", unfollowed := true, recurses := true, apart := false }
def FnExactGreatestFreeSaid : Prop := fnExactGreatestFreeRow.holds Try.pinned (OpenSpec.ofChange fnExactGreatestFreeSpec)

/-- ITS FALSE NEIGHBOUR: 'it returns false'. Refute it at one input. -/
def fnExactGreatestFreeWrong : ChangeSpec := { name := "fnExactGreatestFree", fn := fun _ => fun
  | [d1, d2] => { results := [.lit (.bool false)], args := [d1, d2] }
  | _ => none }
def FnExactGreatestFreeWrongFalsely : Prop := fnExactGreatestFreeRow.holds Try.pinned (OpenSpec.ofChange fnExactGreatestFreeWrong)

/-- 'laws.FnExactProductColouring': WHATEVER THE INPUT: true; the input reads as it did. -/
def fnExactProductColouringSpec : ChangeSpec := { name := "fnExactProductColouring", fn := fun _ => fun
  | [d1, d2] => { results := [.lit (.bool true)], args := [d1, d2] }
  | _ => none }
def fnExactProductColouringRow : OpenClaim := { program := "ytdkodhonaoecnaa", sum := "f86ede25e348a7504bbbb1cac2d7256d67777974bd5735ef65ed2d09598065de", func := "loop.example/g01362/laws.FnExactProductColouring", spec := "fnExactProductColouring", unfollowed := true, recurses := true, apart := false }
def FnExactProductColouringSaid : Prop := fnExactProductColouringRow.holds Try.pinned (OpenSpec.ofChange fnExactProductColouringSpec)

/-- ITS FALSE NEIGHBOUR: 'it returns false'. Refute it at one input. -/
def fnExactProductColouringWrong : ChangeSpec := { name := "fnExactProductColouring", fn := fun _ => fun
  | [d1, d2] => { results := [.lit (.bool false)], args := [d1, d2] }
  | _ => none }
def FnExactProductColouringWrongFalsely : Prop := fnExactProductColouringRow.holds Try.pinned (OpenSpec.ofChange fnExactProductColouringWrong)

/-- 'laws.FnExactChangeEdge': WHATEVER THE INPUT: true; the input reads as it did. -/
def fnExactChangeEdgeSpec : ChangeSpec := { name := "fnExactChangeEdge", fn := fun _ => fun
  | [d1, d2, d3, d4] => { results := [.lit (.bool true)], args := [d1, d2, d3, d4] }
  | _ => none }
def fnExactChangeEdgeRow : OpenClaim := { program := "ytdkodhonaoecnaa", sum := "f86ede25e348a7504bbbb1cac2d7256d67777974bd5735ef65ed2d09598065de", func := "loop.example/g01362/laws.FnExactChangeEdge", spec := "fnExactChangeEdge", unfollowed := true, recurses := true, apart := false }
def FnExactChangeEdgeSaid : Prop := fnExactChangeEdgeRow.holds Try.pinned (OpenSpec.ofChange fnExactChangeEdgeSpec)

/-- ITS FALSE NEIGHBOUR: 'it returns false'. Refute it at one input. -/
def fnExactChangeEdgeWrong : ChangeSpec := { name := "fnExactChangeEdge", fn := fun _ => fun
  | [d1, d2, d3, d4] => { results := [.lit (.bool false)], args := [d1, d2, d3, d4] }
  | _ => none }
def FnExactChangeEdgeWrongFalsely : Prop := fnExactChangeEdgeRow.holds Try.pinned (OpenSpec.ofChange fnExactChangeEdgeWrong)

/-- 'laws.FnExactNamedColouring': WHATEVER THE INPUT: true; the input reads as it did. -/
def fnExactNamedColouringSpec : ChangeSpec := { name := "fnExactNamedColouring", fn := fun _ => fun
  | [d] => { results := [.lit (.bool true)], args := [d] }
  | _ => none }
def fnExactNamedColouringRow : OpenClaim := { program := "ytdkodhonaoecnaa", sum := "f86ede25e348a7504bbbb1cac2d7256d67777974bd5735ef65ed2d09598065de", func := "loop.example/g01362/laws.FnExactNamedColouring", spec := "fnExactNamedColouring", unfollowed := true, recurses := true, apart := false }
def FnExactNamedColouringSaid : Prop := fnExactNamedColouringRow.holds Try.pinned (OpenSpec.ofChange fnExactNamedColouringSpec)

/-- ITS FALSE NEIGHBOUR: 'it returns false'. Refute it at one input. -/
def fnExactNamedColouringWrong : ChangeSpec := { name := "fnExactNamedColouring", fn := fun _ => fun
  | [d] => { results := [.lit (.bool false)], args := [d] }
  | _ => none }
def FnExactNamedColouringWrongFalsely : Prop := fnExactNamedColouringRow.holds Try.pinned (OpenSpec.ofChange fnExactNamedColouringWrong)

/-- 'laws.FnExactFirstFault': WHATEVER THE INPUT: true; the input reads as it did. -/
def fnExactFirstFaultSpec : ChangeSpec := { name := "fnExactFirstFault", fn := fun _ => fun
  | [d1, d2, d3] => { results := [.lit (.bool true)], args := [d1, d2, d3] }
  | _ => none }
def fnExactFirstFaultRow : OpenClaim := { program := "ytdkodhonaoecnaa", sum := "f86ede25e348a7504bbbb1cac2d7256d67777974bd5735ef65ed2d09598065de", func := "loop.example/g01362/laws.FnExactFirstFault", spec := "fnExactFirstFault", unfollowed := true, recurses := true, apart := false }
def FnExactFirstFaultSaid : Prop := fnExactFirstFaultRow.holds Try.pinned (OpenSpec.ofChange fnExactFirstFaultSpec)

/-- ITS FALSE NEIGHBOUR: 'it returns false'. Refute it at one input. -/
def fnExactFirstFaultWrong : ChangeSpec := { name := "fnExactFirstFault", fn := fun _ => fun
  | [d1, d2, d3] => { results := [.lit (.bool false)], args := [d1, d2, d3] }
  | _ => none }
def FnExactFirstFaultWrongFalsely : Prop := fnExactFirstFaultRow.holds Try.pinned (OpenSpec.ofChange fnExactFirstFaultWrong)

/-- 'laws.FnExactAngleNumber': WHATEVER THE INPUT: true; the input reads as it did. -/
def fnExactAngleNumberSpec : ChangeSpec := { name := "fnExactAngleNumber", fn := fun _ => fun
  | [d] => { results := [.lit (.bool true)], args := [d] }
  | _ => none }
def fnExactAngleNumberRow : OpenClaim := { program := "ytdkodhonaoecnaa", sum := "f86ede25e348a7504bbbb1cac2d7256d67777974bd5735ef65ed2d09598065de", func := "loop.example/g01362/laws.FnExactAngleNumber", spec := "fnExactAngleNumber", unfollowed := true, recurses := true, apart := false }
def FnExactAngleNumberSaid : Prop := fnExactAngleNumberRow.holds Try.pinned (OpenSpec.ofChange fnExactAngleNumberSpec)

/-- ITS FALSE NEIGHBOUR: 'it returns false'. Refute it at one input. -/
def fnExactAngleNumberWrong : ChangeSpec := { name := "fnExactAngleNumber", fn := fun _ => fun
  | [d] => { results := [.lit (.bool false)], args := [d] }
  | _ => none }
def FnExactAngleNumberWrongFalsely : Prop := fnExactAngleNumberRow.holds Try.pinned (OpenSpec.ofChange fnExactAngleNumberWrong)

/-- 'laws.FnExactIsBalanced': WHATEVER THE INPUT: true; the input reads as it did. -/
def fnExactIsBalancedSpec : ChangeSpec := { name := "fnExactIsBalanced", fn := fun _ => fun
  | [d] => { results := [.lit (.bool true)], args := [d] }
  | _ => none }
def fnExactIsBalancedRow : OpenClaim := { program := "ytdkodhonaoecnaa", sum := "f86ede25e348a7504bbbb1cac2d7256d67777974bd5735ef65ed2d09598065de", func := "loop.example/g01362/laws.FnExactIsBalanced", spec := "fnExactIsBalanced", unfollowed := true, recurses := true, apart := false }
def FnExactIsBalancedSaid : Prop := fnExactIsBalancedRow.holds Try.pinned (OpenSpec.ofChange fnExactIsBalancedSpec)

/-- ITS FALSE NEIGHBOUR: 'it returns false'. Refute it at one input. -/
def fnExactIsBalancedWrong : ChangeSpec := { name := "fnExactIsBalanced", fn := fun _ => fun
  | [d] => { results := [.lit (.bool false)], args := [d] }
  | _ => none }
def FnExactIsBalancedWrongFalsely : Prop := fnExactIsBalancedRow.holds Try.pinned (OpenSpec.ofChange fnExactIsBalancedWrong)

/-- 'laws.FnExactTurnColouring': WHATEVER THE INPUT: true; the input reads as it did. -/
def fnExactTurnColouringSpec : ChangeSpec := { name := "fnExactTurnColouring", fn := fun _ => fun
  | [d1, d2] => { results := [.lit (.bool true)], args := [d1, d2] }
  | _ => none }
def fnExactTurnColouringRow : OpenClaim := { program := "ytdkodhonaoecnaa", sum := "f86ede25e348a7504bbbb1cac2d7256d67777974bd5735ef65ed2d09598065de", func := "loop.example/g01362/laws.FnExactTurnColouring", spec := "fnExactTurnColouring", unfollowed := true, recurses := true, apart := false }
def FnExactTurnColouringSaid : Prop := fnExactTurnColouringRow.holds Try.pinned (OpenSpec.ofChange fnExactTurnColouringSpec)

/-- ITS FALSE NEIGHBOUR: 'it returns false'. Refute it at one input. -/
def fnExactTurnColouringWrong : ChangeSpec := { name := "fnExactTurnColouring", fn := fun _ => fun
  | [d1, d2] => { results := [.lit (.bool false)], args := [d1, d2] }
  | _ => none }
def FnExactTurnColouringWrongFalsely : Prop := fnExactTurnColouringRow.holds Try.pinned (OpenSpec.ofChange fnExactTurnColouringWrong)

/-- 'laws.FnExactPartOfColouring': WHATEVER THE INPUT: true; the input reads as it did. -/
def fnExactPartOfColouringSpec : ChangeSpec := { name := "fnExactPartOfColouring", fn := fun _ => fun
  | [d] => { results := [.lit (.bool true)], args := [d] }
  | _ => none }
def fnExactPartOfColouringRow : OpenClaim := { program := "ytdkodhonaoecnaa", sum := "f86ede25e348a7504bbbb1cac2d7256d67777974bd5735ef65ed2d09598065de", func := "loop.example/g01362/laws.FnExactPartOfColouring", spec := "fnExactPartOfColouring", unfollowed := true, recurses := true, apart := false }
def FnExactPartOfColouringSaid : Prop := fnExactPartOfColouringRow.holds Try.pinned (OpenSpec.ofChange fnExactPartOfColouringSpec)

/-- ITS FALSE NEIGHBOUR: 'it returns false'. Refute it at one input. -/
def fnExactPartOfColouringWrong : ChangeSpec := { name := "fnExactPartOfColouring", fn := fun _ => fun
  | [d] => { results := [.lit (.bool false)], args := [d] }
  | _ => none }
def FnExactPartOfColouringWrongFalsely : Prop := fnExactPartOfColouringRow.holds Try.pinned (OpenSpec.ofChange fnExactPartOfColouringWrong)

/-- 'laws.FnExactListOfDigital': WHATEVER THE INPUT: true; the input reads as it did. -/
def fnExactListOfDigitalSpec : ChangeSpec := { name := "fnExactListOfDigital", fn := fun _ => fun
  | [d] => { results := [.lit (.bool true)], args := [d] }
  | _ => none }
def fnExactListOfDigitalRow : OpenClaim := { program := "ytdkodhonaoecnaa", sum := "f86ede25e348a7504bbbb1cac2d7256d67777974bd5735ef65ed2d09598065de", func := "loop.example/g01362/laws.FnExactListOfDigital", spec := "fnExactListOfDigital", unfollowed := true, recurses := true, apart := false }
def FnExactListOfDigitalSaid : Prop := fnExactListOfDigitalRow.holds Try.pinned (OpenSpec.ofChange fnExactListOfDigitalSpec)

/-- ITS FALSE NEIGHBOUR: 'it returns false'. Refute it at one input. -/
def fnExactListOfDigitalWrong : ChangeSpec := { name := "fnExactListOfDigital", fn := fun _ => fun
  | [d] => { results := [.lit (.bool false)], args := [d] }
  | _ => none }
def FnExactListOfDigitalWrongFalsely : Prop := fnExactListOfDigitalRow.holds Try.pinned (OpenSpec.ofChange fnExactListOfDigitalWrong)

/- THE SECOND FORM. 'bulk': how many values and letters a reading holds, each counted each time it is reached (what is shared counts as often as it is met; a slice's spare places count too). A statement '..UptoSaid' is the law's where the arguments, and the package variables that the reading takes, are together of bulk at most 1048576: NARROWER than '..Said'. Prove '..Said' where nothing that the law and all that it calls make is longer than what came in: it says more and counts as full. Else prove '..UptoSaid'. A law counts once. -/
mutual
def uptoBulk {H : Type} : DataW H → Nat
  | .lit (.string bytes) => bytes.length + 1
  | .lit _ => 1
  | .nil => 1
  | .ptr d => uptoBulk d + 1
  | .slice elems spare => uptoBulkAll elems + uptoBulkAll spare + 1
  | .agg parts => uptoBulkAll parts + 1
  | .iface _ d => uptoBulk d + 1
  | .map entries => uptoBulkEntries entries + 1
  | .held _ => 1
def uptoBulkAll {H : Type} : List (DataW H) → Nat
  | [] => 0
  | d :: r => uptoBulk d + uptoBulkAll r
def uptoBulkEntries {H : Type} : List (Lit × DataW H) → Nat
  | [] => 0
  | x :: r => uptoBulkEntry x + uptoBulkEntries r
def uptoBulkEntry {H : Type} : Lit × DataW H → Nat
  | (.string bytes, d) => bytes.length + uptoBulk d + 1
  | (_, d) => uptoBulk d + 1
 end
def uptoSmall : (H : Type) → List (DataW H) → Bool := fun _ ds => decide (uptoBulkAll ds ≤ 1048576)
def OpenSpec.upto (s : _root_.Go.ChangeSpec) : _root_.Go.OpenSpec := { _root_.Go.OpenSpec.ofChange s with cond := some uptoSmall }

/-- 'laws.FnExactCountClasses', WHERE WHAT IT READS IS OF BULK AT MOST 1048576: true; the input reads as it did. -/
def fnExactCountClassesUptoRow : OpenClaim := { program := "ytdkodhonaoecnaa", sum := "f86ede25e348a7504bbbb1cac2d7256d67777974bd5735ef65ed2d09598065de", func := "loop.example/g01362/laws.FnExactCountClasses", spec := "fnExactCountClasses", recurses := true, apart := false, narrowed := true }
def FnExactCountClassesUptoSaid : Prop := fnExactCountClassesUptoRow.holds Try.pinned (OpenSpec.upto fnExactCountClassesSpec)

/-- 'laws.FnExactCircularOf', WHERE WHAT IT READS IS OF BULK AT MOST 1048576: true; the input reads as it did. -/
def fnExactCircularOfUptoRow : OpenClaim := { program := "ytdkodhonaoecnaa", sum := "f86ede25e348a7504bbbb1cac2d7256d67777974bd5735ef65ed2d09598065de", func := "loop.example/g01362/laws.FnExactCircularOf", spec := "fnExactCircularOf", unfollowed := true, recurses := true, apart := false, narrowed := true }
def FnExactCircularOfUptoSaid : Prop := fnExactCircularOfUptoRow.holds Try.pinned (OpenSpec.upto fnExactCircularOfSpec)

/-- 'laws.FnExactGreatestFree', WHERE WHAT IT READS IS OF BULK AT MOST 1048576: true; the input reads as it did. -/
def fnExactGreatestFreeUptoRow : OpenClaim := { program := "ytdkodhonaoecnaa", sum := "f86ede25e348a7504bbbb1cac2d7256d67777974bd5735ef65ed2d09598065de", func := "loop.example/g01362/laws.FnExactGreatestFree", spec := "fnExactGreatestFree", unfollowed := true, recurses := true, apart := false, narrowed := true }
def FnExactGreatestFreeUptoSaid : Prop := fnExactGreatestFreeUptoRow.holds Try.pinned (OpenSpec.upto fnExactGreatestFreeSpec)

/-- 'laws.FnExactProductColouring', WHERE WHAT IT READS IS OF BULK AT MOST 1048576: true; the input reads as it did. -/
def fnExactProductColouringUptoRow : OpenClaim := { program := "ytdkodhonaoecnaa", sum := "f86ede25e348a7504bbbb1cac2d7256d67777974bd5735ef65ed2d09598065de", func := "loop.example/g01362/laws.FnExactProductColouring", spec := "fnExactProductColouring", unfollowed := true, recurses := true, apart := false, narrowed := true }
def FnExactProductColouringUptoSaid : Prop := fnExactProductColouringUptoRow.holds Try.pinned (OpenSpec.upto fnExactProductColouringSpec)

/-- 'laws.FnExactChangeEdge', WHERE WHAT IT READS IS OF BULK AT MOST 1048576: true; the input reads as it did. -/
def fnExactChangeEdgeUptoRow : OpenClaim := { program := "ytdkodhonaoecnaa", sum := "f86ede25e348a7504bbbb1cac2d7256d67777974bd5735ef65ed2d09598065de", func := "loop.example/g01362/laws.FnExactChangeEdge", spec := "fnExactChangeEdge", unfollowed := true, recurses := true, apart := false, narrowed := true }
def FnExactChangeEdgeUptoSaid : Prop := fnExactChangeEdgeUptoRow.holds Try.pinned (OpenSpec.upto fnExactChangeEdgeSpec)

/-- 'laws.FnExactNamedColouring', WHERE WHAT IT READS IS OF BULK AT MOST 1048576: true; the input reads as it did. -/
def fnExactNamedColouringUptoRow : OpenClaim := { program := "ytdkodhonaoecnaa", sum := "f86ede25e348a7504bbbb1cac2d7256d67777974bd5735ef65ed2d09598065de", func := "loop.example/g01362/laws.FnExactNamedColouring", spec := "fnExactNamedColouring", unfollowed := true, recurses := true, apart := false, narrowed := true }
def FnExactNamedColouringUptoSaid : Prop := fnExactNamedColouringUptoRow.holds Try.pinned (OpenSpec.upto fnExactNamedColouringSpec)

/-- 'laws.FnExactFirstFault', WHERE WHAT IT READS IS OF BULK AT MOST 1048576: true; the input reads as it did. -/
def fnExactFirstFaultUptoRow : OpenClaim := { program := "ytdkodhonaoecnaa", sum := "f86ede25e348a7504bbbb1cac2d7256d67777974bd5735ef65ed2d09598065de", func := "loop.example/g01362/laws.FnExactFirstFault", spec := "fnExactFirstFault", unfollowed := true, recurses := true, apart := false, narrowed := true }
def FnExactFirstFaultUptoSaid : Prop := fnExactFirstFaultUptoRow.holds Try.pinned (OpenSpec.upto fnExactFirstFaultSpec)

/-- 'laws.FnExactAngleNumber', WHERE WHAT IT READS IS OF BULK AT MOST 1048576: true; the input reads as it did. -/
def fnExactAngleNumberUptoRow : OpenClaim := { program := "ytdkodhonaoecnaa", sum := "f86ede25e348a7504bbbb1cac2d7256d67777974bd5735ef65ed2d09598065de", func := "loop.example/g01362/laws.FnExactAngleNumber", spec := "fnExactAngleNumber", unfollowed := true, recurses := true, apart := false, narrowed := true }
def FnExactAngleNumberUptoSaid : Prop := fnExactAngleNumberUptoRow.holds Try.pinned (OpenSpec.upto fnExactAngleNumberSpec)

/-- 'laws.FnExactIsBalanced', WHERE WHAT IT READS IS OF BULK AT MOST 1048576: true; the input reads as it did. -/
def fnExactIsBalancedUptoRow : OpenClaim := { program := "ytdkodhonaoecnaa", sum := "f86ede25e348a7504bbbb1cac2d7256d67777974bd5735ef65ed2d09598065de", func := "loop.example/g01362/laws.FnExactIsBalanced", spec := "fnExactIsBalanced", unfollowed := true, recurses := true, apart := false, narrowed := true }
def FnExactIsBalancedUptoSaid : Prop := fnExactIsBalancedUptoRow.holds Try.pinned (OpenSpec.upto fnExactIsBalancedSpec)

/-- 'laws.FnExactTurnColouring', WHERE WHAT IT READS IS OF BULK AT MOST 1048576: true; the input reads as it did. -/
def fnExactTurnColouringUptoRow : OpenClaim := { program := "ytdkodhonaoecnaa", sum := "f86ede25e348a7504bbbb1cac2d7256d67777974bd5735ef65ed2d09598065de", func := "loop.example/g01362/laws.FnExactTurnColouring", spec := "fnExactTurnColouring", unfollowed := true, recurses := true, apart := false, narrowed := true }
def FnExactTurnColouringUptoSaid : Prop := fnExactTurnColouringUptoRow.holds Try.pinned (OpenSpec.upto fnExactTurnColouringSpec)

/-- 'laws.FnExactPartOfColouring', WHERE WHAT IT READS IS OF BULK AT MOST 1048576: true; the input reads as it did. -/
def fnExactPartOfColouringUptoRow : OpenClaim := { program := "ytdkodhonaoecnaa", sum := "f86ede25e348a7504bbbb1cac2d7256d67777974bd5735ef65ed2d09598065de", func := "loop.example/g01362/laws.FnExactPartOfColouring", spec := "fnExactPartOfColouring", unfollowed := true, recurses := true, apart := false, narrowed := true }
def FnExactPartOfColouringUptoSaid : Prop := fnExactPartOfColouringUptoRow.holds Try.pinned (OpenSpec.upto fnExactPartOfColouringSpec)

/-- 'laws.FnExactListOfDigital', WHERE WHAT IT READS IS OF BULK AT MOST 1048576: true; the input reads as it did. -/
def fnExactListOfDigitalUptoRow : OpenClaim := { program := "ytdkodhonaoecnaa", sum := "f86ede25e348a7504bbbb1cac2d7256d67777974bd5735ef65ed2d09598065de", func := "loop.example/g01362/laws.FnExactListOfDigital", spec := "fnExactListOfDigital", unfollowed := true, recurses := true, apart := false, narrowed := true }
def FnExactListOfDigitalUptoSaid : Prop := fnExactListOfDigitalUptoRow.holds Try.pinned (OpenSpec.upto fnExactListOfDigitalSpec)

end Rows
end Go.Proofs.Ytdkodhonaoecnaa
