/-
  No cell of these rows narrows 'for every input' (looked for: loops, veiled, ifaces, maps, wideKeys, modest, calm, conditions, laid).
  DERIVED. THE GIVEN ROWS OF THIS SEAT. 12 by the template 'for every input the law returns true; each argument reads behind the call as it read before'; 0 by the template 'total and deterministic' (their statements: YtpfclidbebmnaaaTotals.lean).
  GIVEN WITH THE SEED: the statements are not yours to turn. If you find one false, say at which input.
  Laid BY PROGRAM, IN A SANDBOX (cutbox-rows.mjs): the forced cells as the released guide's own fill.sh prints them over the translation 6098fb9a00a7b074… (all of the seat's roots in one cut). By AI agents, Wed Nov 11 2026. No macro, syntax, notation, axiom, sorry.
-/
import Derived.Test.YtpfclidbebmnaaaChecked
import GoSem.Claim
import GoSem.ClaimJoined
import GoSem.ClaimMapViews
import Derived.JoinedTies
import Derived.KernelRfl
namespace Go.Proofs.Ytpfclidbebmnaaa
/- THE CELL 'sum', in the pinned program and in every row, IS THE sha256 OF THE DUMP (.gsa) THAT YtpfclidbebmnaaaProg.lean LOADS. Nothing in Lean hashes anything: it is a label: what it is worth is what the hold of that sum in a sandbox is worth. -/
noncomputable def Try.pinned : Pinned := { name := "ytpfclidbebmnaaa", sum := "6098fb9a00a7b074eea8f30119e35fa581e73f263bdac090b38ce70f77bbad9d", checked := Try.checked }
namespace Rows
def none {H : Type} : Left H := { results := [], args := [] }

/-- 'laws.FnExactConstants': WHATEVER THE INPUT: true; the input reads as it did. -/
def fnExactConstantsSpec : ChangeSpec := { name := "fnExactConstants", fn := fun _ => fun
  | [] => { results := [.lit (.bool true)], args := [] }
  | _ => none }
def fnExactConstantsRow : OpenClaim := { program := "ytpfclidbebmnaaa", sum := "6098fb9a00a7b074eea8f30119e35fa581e73f263bdac090b38ce70f77bbad9d", func := "loop.example/g01362/laws.FnExactConstants", spec := "fnExactConstants", plainKeys := false, apart := false }
def FnExactConstantsSaid : Prop := fnExactConstantsRow.holds Try.pinned (OpenSpec.ofChange fnExactConstantsSpec)

/-- ITS FALSE NEIGHBOUR: 'it returns false'. Refute it at one input. -/
def fnExactConstantsWrong : ChangeSpec := { name := "fnExactConstants", fn := fun _ => fun
  | [] => { results := [.lit (.bool false)], args := [] }
  | _ => none }
def FnExactConstantsWrongFalsely : Prop := fnExactConstantsRow.holds Try.pinned (OpenSpec.ofChange fnExactConstantsWrong)

/-- 'laws.FnExactPathNumber': WHATEVER THE INPUT: true; the input reads as it did. -/
def fnExactPathNumberSpec : ChangeSpec := { name := "fnExactPathNumber", fn := fun _ => fun
  | [d1, d2] => { results := [.lit (.bool true)], args := [d1, d2] }
  | _ => none }
def fnExactPathNumberRow : OpenClaim := { program := "ytpfclidbebmnaaa", sum := "6098fb9a00a7b074eea8f30119e35fa581e73f263bdac090b38ce70f77bbad9d", func := "loop.example/g01362/laws.FnExactPathNumber", spec := "fnExactPathNumber", plainKeys := false, apart := false }
def FnExactPathNumberSaid : Prop := fnExactPathNumberRow.holds Try.pinned (OpenSpec.ofChange fnExactPathNumberSpec)

/-- ITS FALSE NEIGHBOUR: 'it returns false'. Refute it at one input. -/
def fnExactPathNumberWrong : ChangeSpec := { name := "fnExactPathNumber", fn := fun _ => fun
  | [d1, d2] => { results := [.lit (.bool false)], args := [d1, d2] }
  | _ => none }
def FnExactPathNumberWrongFalsely : Prop := fnExactPathNumberRow.holds Try.pinned (OpenSpec.ofChange fnExactPathNumberWrong)

/-- 'laws.FnExactLeastTriangles': WHATEVER THE INPUT: true; the input reads as it did. -/
def fnExactLeastTrianglesSpec : ChangeSpec := { name := "fnExactLeastTriangles", fn := fun _ => fun
  | [d] => { results := [.lit (.bool true)], args := [d] }
  | _ => none }
def fnExactLeastTrianglesRow : OpenClaim := { program := "ytpfclidbebmnaaa", sum := "6098fb9a00a7b074eea8f30119e35fa581e73f263bdac090b38ce70f77bbad9d", func := "loop.example/g01362/laws.FnExactLeastTriangles", spec := "fnExactLeastTriangles", plainKeys := false, apart := false }
def FnExactLeastTrianglesSaid : Prop := fnExactLeastTrianglesRow.holds Try.pinned (OpenSpec.ofChange fnExactLeastTrianglesSpec)

/-- ITS FALSE NEIGHBOUR: 'it returns false'. Refute it at one input. -/
def fnExactLeastTrianglesWrong : ChangeSpec := { name := "fnExactLeastTriangles", fn := fun _ => fun
  | [d] => { results := [.lit (.bool false)], args := [d] }
  | _ => none }
def FnExactLeastTrianglesWrongFalsely : Prop := fnExactLeastTrianglesRow.holds Try.pinned (OpenSpec.ofChange fnExactLeastTrianglesWrong)

/-- 'laws.FnExactMatchingNumber': WHATEVER THE INPUT: true; the input reads as it did. -/
def fnExactMatchingNumberSpec : ChangeSpec := { name := "fnExactMatchingNumber", fn := fun _ => fun
  | [d1, d2] => { results := [.lit (.bool true)], args := [d1, d2] }
  | _ => none }
def fnExactMatchingNumberRow : OpenClaim := { program := "ytpfclidbebmnaaa", sum := "6098fb9a00a7b074eea8f30119e35fa581e73f263bdac090b38ce70f77bbad9d", func := "loop.example/g01362/laws.FnExactMatchingNumber", spec := "fnExactMatchingNumber", plainKeys := false, apart := false }
def FnExactMatchingNumberSaid : Prop := fnExactMatchingNumberRow.holds Try.pinned (OpenSpec.ofChange fnExactMatchingNumberSpec)

/-- ITS FALSE NEIGHBOUR: 'it returns false'. Refute it at one input. -/
def fnExactMatchingNumberWrong : ChangeSpec := { name := "fnExactMatchingNumber", fn := fun _ => fun
  | [d1, d2] => { results := [.lit (.bool false)], args := [d1, d2] }
  | _ => none }
def FnExactMatchingNumberWrongFalsely : Prop := fnExactMatchingNumberRow.holds Try.pinned (OpenSpec.ofChange fnExactMatchingNumberWrong)

/-- 'laws.FnExactTriangleBound': WHATEVER THE INPUT: true; the input reads as it did. -/
def fnExactTriangleBoundSpec : ChangeSpec := { name := "fnExactTriangleBound", fn := fun _ => fun
  | [d] => { results := [.lit (.bool true)], args := [d] }
  | _ => none }
def fnExactTriangleBoundRow : OpenClaim := { program := "ytpfclidbebmnaaa", sum := "6098fb9a00a7b074eea8f30119e35fa581e73f263bdac090b38ce70f77bbad9d", func := "loop.example/g01362/laws.FnExactTriangleBound", spec := "fnExactTriangleBound", plainKeys := false, apart := false }
def FnExactTriangleBoundSaid : Prop := fnExactTriangleBoundRow.holds Try.pinned (OpenSpec.ofChange fnExactTriangleBoundSpec)

/-- ITS FALSE NEIGHBOUR: 'it returns false'. Refute it at one input. -/
def fnExactTriangleBoundWrong : ChangeSpec := { name := "fnExactTriangleBound", fn := fun _ => fun
  | [d] => { results := [.lit (.bool false)], args := [d] }
  | _ => none }
def FnExactTriangleBoundWrongFalsely : Prop := fnExactTriangleBoundRow.holds Try.pinned (OpenSpec.ofChange fnExactTriangleBoundWrong)

/-- 'laws.FnSumParts': WHATEVER THE INPUT: true; the input reads as it did. -/
def fnSumPartsSpec : ChangeSpec := { name := "fnSumParts", fn := fun _ => fun
  | [d] => { results := [.lit (.bool true)], args := [d] }
  | _ => none }
def fnSumPartsRow : OpenClaim := { program := "ytpfclidbebmnaaa", sum := "6098fb9a00a7b074eea8f30119e35fa581e73f263bdac090b38ce70f77bbad9d", func := "loop.example/g01362/laws.FnSumParts", spec := "fnSumParts", unfollowed := true, recurses := true, plainKeys := false, apart := false }
def FnSumPartsSaid : Prop := fnSumPartsRow.holds Try.pinned (OpenSpec.ofChange fnSumPartsSpec)

/-- ITS FALSE NEIGHBOUR: 'it returns false'. Refute it at one input. -/
def fnSumPartsWrong : ChangeSpec := { name := "fnSumParts", fn := fun _ => fun
  | [d] => { results := [.lit (.bool false)], args := [d] }
  | _ => none }
def FnSumPartsWrongFalsely : Prop := fnSumPartsRow.holds Try.pinned (OpenSpec.ofChange fnSumPartsWrong)

/-- 'laws.FnExactStarNumber': WHATEVER THE INPUT: true; the input reads as it did. -/
def fnExactStarNumberSpec : ChangeSpec := { name := "fnExactStarNumber", fn := fun _ => fun
  | [d1, d2] => { results := [.lit (.bool true)], args := [d1, d2] }
  | _ => none }
def fnExactStarNumberRow : OpenClaim := { program := "ytpfclidbebmnaaa", sum := "6098fb9a00a7b074eea8f30119e35fa581e73f263bdac090b38ce70f77bbad9d", func := "loop.example/g01362/laws.FnExactStarNumber", spec := "fnExactStarNumber", plainKeys := false, apart := false }
def FnExactStarNumberSaid : Prop := fnExactStarNumberRow.holds Try.pinned (OpenSpec.ofChange fnExactStarNumberSpec)

/-- ITS FALSE NEIGHBOUR: 'it returns false'. Refute it at one input. -/
def fnExactStarNumberWrong : ChangeSpec := { name := "fnExactStarNumber", fn := fun _ => fun
  | [d1, d2] => { results := [.lit (.bool false)], args := [d1, d2] }
  | _ => none }
def FnExactStarNumberWrongFalsely : Prop := fnExactStarNumberRow.holds Try.pinned (OpenSpec.ofChange fnExactStarNumberWrong)

/-- 'laws.FnExactBinomialBound': WHATEVER THE INPUT: true; the input reads as it did. -/
def fnExactBinomialBoundSpec : ChangeSpec := { name := "fnExactBinomialBound", fn := fun _ => fun
  | [d1, d2] => { results := [.lit (.bool true)], args := [d1, d2] }
  | _ => none }
def fnExactBinomialBoundRow : OpenClaim := { program := "ytpfclidbebmnaaa", sum := "6098fb9a00a7b074eea8f30119e35fa581e73f263bdac090b38ce70f77bbad9d", func := "loop.example/g01362/laws.FnExactBinomialBound", spec := "fnExactBinomialBound", plainKeys := false, apart := false }
def FnExactBinomialBoundSaid : Prop := fnExactBinomialBoundRow.holds Try.pinned (OpenSpec.ofChange fnExactBinomialBoundSpec)

/-- ITS FALSE NEIGHBOUR: 'it returns false'. Refute it at one input. -/
def fnExactBinomialBoundWrong : ChangeSpec := { name := "fnExactBinomialBound", fn := fun _ => fun
  | [d1, d2] => { results := [.lit (.bool false)], args := [d1, d2] }
  | _ => none }
def FnExactBinomialBoundWrongFalsely : Prop := fnExactBinomialBoundRow.holds Try.pinned (OpenSpec.ofChange fnExactBinomialBoundWrong)

/-- 'laws.FnExactCountingBound': WHATEVER THE INPUT: true; the input reads as it did. -/
def fnExactCountingBoundSpec : ChangeSpec := { name := "fnExactCountingBound", fn := fun _ => fun
  | [d] => { results := [.lit (.bool true)], args := [d] }
  | _ => none }
def fnExactCountingBoundRow : OpenClaim := { program := "ytpfclidbebmnaaa", sum := "6098fb9a00a7b074eea8f30119e35fa581e73f263bdac090b38ce70f77bbad9d", func := "loop.example/g01362/laws.FnExactCountingBound", spec := "fnExactCountingBound", plainKeys := false, apart := false }
def FnExactCountingBoundSaid : Prop := fnExactCountingBoundRow.holds Try.pinned (OpenSpec.ofChange fnExactCountingBoundSpec)

/-- ITS FALSE NEIGHBOUR: 'it returns false'. Refute it at one input. -/
def fnExactCountingBoundWrong : ChangeSpec := { name := "fnExactCountingBound", fn := fun _ => fun
  | [d] => { results := [.lit (.bool false)], args := [d] }
  | _ => none }
def FnExactCountingBoundWrongFalsely : Prop := fnExactCountingBoundRow.holds Try.pinned (OpenSpec.ofChange fnExactCountingBoundWrong)

/-- 'laws.FnExactKnownNumber': WHATEVER THE INPUT: true; the input reads as it did. -/
def fnExactKnownNumberSpec : ChangeSpec := { name := "fnExactKnownNumber", fn := fun _ => fun
  | [d1, d2] => { results := [.lit (.bool true)], args := [d1, d2] }
  | _ => none }
def fnExactKnownNumberRow : OpenClaim := { program := "ytpfclidbebmnaaa", sum := "6098fb9a00a7b074eea8f30119e35fa581e73f263bdac090b38ce70f77bbad9d", func := "loop.example/g01362/laws.FnExactKnownNumber", spec := "fnExactKnownNumber", plainKeys := false, apart := false }
def FnExactKnownNumberSaid : Prop := fnExactKnownNumberRow.holds Try.pinned (OpenSpec.ofChange fnExactKnownNumberSpec)

/-- ITS FALSE NEIGHBOUR: 'it returns false'. Refute it at one input. -/
def fnExactKnownNumberWrong : ChangeSpec := { name := "fnExactKnownNumber", fn := fun _ => fun
  | [d1, d2] => { results := [.lit (.bool false)], args := [d1, d2] }
  | _ => none }
def FnExactKnownNumberWrongFalsely : Prop := fnExactKnownNumberRow.holds Try.pinned (OpenSpec.ofChange fnExactKnownNumberWrong)

/-- 'laws.FnExactIsColouring': WHATEVER THE INPUT: true; the input reads as it did. -/
def fnExactIsColouringSpec : ChangeSpec := { name := "fnExactIsColouring", fn := fun _ => fun
  | [d] => { results := [.lit (.bool true)], args := [d] }
  | _ => none }
def fnExactIsColouringRow : OpenClaim := { program := "ytpfclidbebmnaaa", sum := "6098fb9a00a7b074eea8f30119e35fa581e73f263bdac090b38ce70f77bbad9d", func := "loop.example/g01362/laws.FnExactIsColouring", spec := "fnExactIsColouring", plainKeys := false, apart := false }
def FnExactIsColouringSaid : Prop := fnExactIsColouringRow.holds Try.pinned (OpenSpec.ofChange fnExactIsColouringSpec)

/-- ITS FALSE NEIGHBOUR: 'it returns false'. Refute it at one input. -/
def fnExactIsColouringWrong : ChangeSpec := { name := "fnExactIsColouring", fn := fun _ => fun
  | [d] => { results := [.lit (.bool false)], args := [d] }
  | _ => none }
def FnExactIsColouringWrongFalsely : Prop := fnExactIsColouringRow.holds Try.pinned (OpenSpec.ofChange fnExactIsColouringWrong)

/-- 'laws.FnExactNeighbourBound': WHATEVER THE INPUT: true; the input reads as it did. -/
def fnExactNeighbourBoundSpec : ChangeSpec := { name := "fnExactNeighbourBound", fn := fun _ => fun
  | [d] => { results := [.lit (.bool true)], args := [d] }
  | _ => none }
def fnExactNeighbourBoundRow : OpenClaim := { program := "ytpfclidbebmnaaa", sum := "6098fb9a00a7b074eea8f30119e35fa581e73f263bdac090b38ce70f77bbad9d", func := "loop.example/g01362/laws.FnExactNeighbourBound", spec := "fnExactNeighbourBound", unfollowed := true, recurses := true, plainKeys := false, apart := false }
def FnExactNeighbourBoundSaid : Prop := fnExactNeighbourBoundRow.holds Try.pinned (OpenSpec.ofChange fnExactNeighbourBoundSpec)

/-- ITS FALSE NEIGHBOUR: 'it returns false'. Refute it at one input. -/
def fnExactNeighbourBoundWrong : ChangeSpec := { name := "fnExactNeighbourBound", fn := fun _ => fun
  | [d] => { results := [.lit (.bool false)], args := [d] }
  | _ => none }
def FnExactNeighbourBoundWrongFalsely : Prop := fnExactNeighbourBoundRow.holds Try.pinned (OpenSpec.ofChange fnExactNeighbourBoundWrong)

/- THE SECOND FORM. 'bulk': how many values and letters a reading holds, each counted each time it is reached (what is shared counts as often as it is met; a slice's spare places count too). A statement '..UptoSaid' is the law's where the arguments, and the package variables that the reading takes, are together of bulk at most 1048576: NARROWER than '..Said'. Prove '..Said' where nothing that the law and all that it calls make is longer than what came in: it says more and counts as full. Else prove '..UptoSaid'. A law counts once. -/
mutual
def uptoBulk {H : Type} : DataW H → Nat
  | .lit (.string bytes) => bytes.length + 1
  | .lit _ => 1
  | .nil => 1
  | .ptr d => uptoBulk d + 1
  | .slice elems spare => uptoBulkAll elems + uptoBulkAll spare + 1
  | .agg parts => uptoBulkAll parts + 1
  | .iface _ d => uptoBulk d + 1
  | .map entries => uptoBulkEntries entries + 1
  | .held _ => 1
def uptoBulkAll {H : Type} : List (DataW H) → Nat
  | [] => 0
  | d :: r => uptoBulk d + uptoBulkAll r
def uptoBulkEntries {H : Type} : List (Lit × DataW H) → Nat
  | [] => 0
  | x :: r => uptoBulkEntry x + uptoBulkEntries r
def uptoBulkEntry {H : Type} : Lit × DataW H → Nat
  | (.string bytes, d) => bytes.length + uptoBulk d + 1
  | (_, d) => uptoBulk d + 1
 end
def uptoSmall : (H : Type) → List (DataW H) → Bool := fun _ ds => decide (uptoBulkAll ds ≤ 1048576)
def OpenSpec.upto (s : _root_.Go.ChangeSpec) : _root_.Go.OpenSpec := { _root_.Go.OpenSpec.ofChange s with cond := some uptoSmall }

/-- 'laws.FnExactConstants', WHERE WHAT IT READS IS OF BULK AT MOST 1048576: true; the input reads as it did. -/
def fnExactConstantsUptoRow : OpenClaim := { program := "ytpfclidbebmnaaa", sum := "6098fb9a00a7b074eea8f30119e35fa581e73f263bdac090b38ce70f77bbad9d", func := "loop.example/g01362/laws.FnExactConstants", spec := "fnExactConstants", plainKeys := false, apart := false, narrowed := true }
def FnExactConstantsUptoSaid : Prop := fnExactConstantsUptoRow.holds Try.pinned (OpenSpec.upto fnExactConstantsSpec)

/-- 'laws.FnExactPathNumber', WHERE WHAT IT READS IS OF BULK AT MOST 1048576: true; the input reads as it did. -/
def fnExactPathNumberUptoRow : OpenClaim := { program := "ytpfclidbebmnaaa", sum := "6098fb9a00a7b074eea8f30119e35fa581e73f263bdac090b38ce70f77bbad9d", func := "loop.example/g01362/laws.FnExactPathNumber", spec := "fnExactPathNumber", plainKeys := false, apart := false, narrowed := true }
def FnExactPathNumberUptoSaid : Prop := fnExactPathNumberUptoRow.holds Try.pinned (OpenSpec.upto fnExactPathNumberSpec)

/-- 'laws.FnExactLeastTriangles', WHERE WHAT IT READS IS OF BULK AT MOST 1048576: true; the input reads as it did. -/
def fnExactLeastTrianglesUptoRow : OpenClaim := { program := "ytpfclidbebmnaaa", sum := "6098fb9a00a7b074eea8f30119e35fa581e73f263bdac090b38ce70f77bbad9d", func := "loop.example/g01362/laws.FnExactLeastTriangles", spec := "fnExactLeastTriangles", plainKeys := false, apart := false, narrowed := true }
def FnExactLeastTrianglesUptoSaid : Prop := fnExactLeastTrianglesUptoRow.holds Try.pinned (OpenSpec.upto fnExactLeastTrianglesSpec)

/-- 'laws.FnExactMatchingNumber', WHERE WHAT IT READS IS OF BULK AT MOST 1048576: true; the input reads as it did. -/
def fnExactMatchingNumberUptoRow : OpenClaim := { program := "ytpfclidbebmnaaa", sum := "6098fb9a00a7b074eea8f30119e35fa581e73f263bdac090b38ce70f77bbad9d", func := "loop.example/g01362/laws.FnExactMatchingNumber", spec := "fnExactMatchingNumber", plainKeys := false, apart := false, narrowed := true }
def FnExactMatchingNumberUptoSaid : Prop := fnExactMatchingNumberUptoRow.holds Try.pinned (OpenSpec.upto fnExactMatchingNumberSpec)

/-- 'laws.FnExactTriangleBound', WHERE WHAT IT READS IS OF BULK AT MOST 1048576: true; the input reads as it did. -/
def fnExactTriangleBoundUptoRow : OpenClaim := { program := "ytpfclidbebmnaaa", sum := "6098fb9a00a7b074eea8f30119e35fa581e73f263bdac090b38ce70f77bbad9d", func := "loop.example/g01362/laws.FnExactTriangleBound", spec := "fnExactTriangleBound", plainKeys := false, apart := false, narrowed := true }
def FnExactTriangleBoundUptoSaid : Prop := fnExactTriangleBoundUptoRow.holds Try.pinned (OpenSpec.upto fnExactTriangleBoundSpec)

/-- 'laws.FnSumParts', WHERE WHAT IT READS IS OF BULK AT MOST 1048576: true; the input reads as it did. -/
def fnSumPartsUptoRow : OpenClaim := { program := "ytpfclidbebmnaaa", sum := "6098fb9a00a7b074eea8f30119e35fa581e73f263bdac090b38ce70f77bbad9d", func := "loop.example/g01362/laws.FnSumParts", spec := "fnSumParts", unfollowed := true, recurses := true, plainKeys := false, apart := false, narrowed := true }
def FnSumPartsUptoSaid : Prop := fnSumPartsUptoRow.holds Try.pinned (OpenSpec.upto fnSumPartsSpec)

/-- 'laws.FnExactStarNumber', WHERE WHAT IT READS IS OF BULK AT MOST 1048576: true; the input reads as it did. -/
def fnExactStarNumberUptoRow : OpenClaim := { program := "ytpfclidbebmnaaa", sum := "6098fb9a00a7b074eea8f30119e35fa581e73f263bdac090b38ce70f77bbad9d", func := "loop.example/g01362/laws.FnExactStarNumber", spec := "fnExactStarNumber", plainKeys := false, apart := false, narrowed := true }
def FnExactStarNumberUptoSaid : Prop := fnExactStarNumberUptoRow.holds Try.pinned (OpenSpec.upto fnExactStarNumberSpec)

/-- 'laws.FnExactBinomialBound', WHERE WHAT IT READS IS OF BULK AT MOST 1048576: true; the input reads as it did. -/
def fnExactBinomialBoundUptoRow : OpenClaim := { program := "ytpfclidbebmnaaa", sum := "6098fb9a00a7b074eea8f30119e35fa581e73f263bdac090b38ce70f77bbad9d", func := "loop.example/g01362/laws.FnExactBinomialBound", spec := "fnExactBinomialBound", plainKeys := false, apart := false, narrowed := true }
def FnExactBinomialBoundUptoSaid : Prop := fnExactBinomialBoundUptoRow.holds Try.pinned (OpenSpec.upto fnExactBinomialBoundSpec)

/-- 'laws.FnExactCountingBound', WHERE WHAT IT READS IS OF BULK AT MOST 1048576: true; the input reads as it did. -/
def fnExactCountingBoundUptoRow : OpenClaim := { program := "ytpfclidbebmnaaa", sum := "6098fb9a00a7b074eea8f30119e35fa581e73f263bdac090b38ce70f77bbad9d", func := "loop.example/g01362/laws.FnExactCountingBound", spec := "fnExactCountingBound", plainKeys := false, apart := false, narrowed := true }
def FnExactCountingBoundUptoSaid : Prop := fnExactCountingBoundUptoRow.holds Try.pinned (OpenSpec.upto fnExactCountingBoundSpec)

/-- 'laws.FnExactKnownNumber', WHERE WHAT IT READS IS OF BULK AT MOST 1048576: true; the input reads as it did. -/
def fnExactKnownNumberUptoRow : OpenClaim := { program := "ytpfclidbebmnaaa", sum := "6098fb9a00a7b074eea8f30119e35fa581e73f263bdac090b38ce70f77bbad9d", func := "loop.example/g01362/laws.FnExactKnownNumber", spec := "fnExactKnownNumber", plainKeys := false, apart := false, narrowed := true }
def FnExactKnownNumberUptoSaid : Prop := fnExactKnownNumberUptoRow.holds Try.pinned (OpenSpec.upto fnExactKnownNumberSpec)

/-- 'laws.FnExactIsColouring', WHERE WHAT IT READS IS OF BULK AT MOST 1048576: true; the input reads as it did. -/
def fnExactIsColouringUptoRow : OpenClaim := { program := "ytpfclidbebmnaaa", sum := "6098fb9a00a7b074eea8f30119e35fa581e73f263bdac090b38ce70f77bbad9d", func := "loop.example/g01362/laws.FnExactIsColouring", spec := "fnExactIsColouring", plainKeys := false, apart := false, narrowed := true }
def FnExactIsColouringUptoSaid : Prop := fnExactIsColouringUptoRow.holds Try.pinned (OpenSpec.upto fnExactIsColouringSpec)

/-- 'laws.FnExactNeighbourBound', WHERE WHAT IT READS IS OF BULK AT MOST 1048576: true; the input reads as it did. -/
def fnExactNeighbourBoundUptoRow : OpenClaim := { program := "ytpfclidbebmnaaa", sum := "6098fb9a00a7b074eea8f30119e35fa581e73f263bdac090b38ce70f77bbad9d", func := "loop.example/g01362/laws.FnExactNeighbourBound", spec := "fnExactNeighbourBound", unfollowed := true, recurses := true, plainKeys := false, apart := false, narrowed := true }
def FnExactNeighbourBoundUptoSaid : Prop := fnExactNeighbourBoundUptoRow.holds Try.pinned (OpenSpec.upto fnExactNeighbourBoundSpec)

end Rows
end Go.Proofs.Ytpfclidbebmnaaa
