/-
  No cell of these rows narrows 'for every input' (looked for: loops, veiled, ifaces, maps, wideKeys, modest, calm, conditions, laid).
  DERIVED. THE GIVEN ROWS OF THIS SEAT. 11 by the template 'for every input the law returns true; each argument reads behind the call as it read before'; 0 by the template 'total and deterministic' (their statements: YtdnofmicjgppnaaTotals.lean).
  GIVEN WITH THE SEED: the statements are not yours to turn. If you find one false, say at which input.
  Laid BY PROGRAM, IN A SANDBOX (cutbox-rows.mjs): the forced cells as the released guide's own fill.sh prints them over the translation 36e0805ad11a2ba8… (all of the seat's roots in one cut). By AI agents, Wed Nov 11 2026. No macro, syntax, notation, axiom, sorry.
-/
import Derived.Test.YtdnofmicjgppnaaChecked
import GoSem.Claim
import GoSem.ClaimJoined
import GoSem.ClaimMapViews
import Derived.JoinedTies
import Derived.KernelRfl
namespace Go.Proofs.Ytdnofmicjgppnaa
/- THE CELL 'sum', in the pinned program and in every row, IS THE sha256 OF THE DUMP (.gsa) THAT YtdnofmicjgppnaaProg.lean LOADS. Nothing in Lean hashes anything: it is a label: what it is worth is what the hold of that sum in a sandbox is worth. -/
noncomputable def Try.pinned : Pinned := { name := "ytdnofmicjgppnaa", sum := "36e0805ad11a2ba87d6060bd6deb985582413614a90bfb1b185bdcf9fcac00e3", checked := Try.checked }
namespace Rows
def none {H : Type} : Left H := { results := [], args := [] }

/-- 'laws.FnExactClassOfColour': WHATEVER THE INPUT: true; the input reads as it did. -/
def fnExactClassOfColourSpec : ChangeSpec := { name := "fnExactClassOfColour", fn := fun _ => fun
  | [d1, d2, d3] => { results := [.lit (.bool true)], args := [d1, d2, d3] }
  | _ => none }
def fnExactClassOfColourRow : OpenClaim := { program := "ytdnofmicjgppnaa", sum := "36e0805ad11a2ba87d6060bd6deb985582413614a90bfb1b185bdcf9fcac00e3", func := "loop.example/g01362/laws.FnExactClassOfColour", spec := "fnExactClassOfColour", unfollowed := true, recurses := true, apart := false }
def FnExactClassOfColourSaid : Prop := fnExactClassOfColourRow.holds Try.pinned (OpenSpec.ofChange fnExactClassOfColourSpec)

/-- ITS FALSE NEIGHBOUR: 'it returns false'. Refute it at one input. -/
def fnExactClassOfColourWrong : ChangeSpec := { name := "fnExactClassOfColour", fn := fun _ => fun
  | [d1, d2, d3] => { results := [.lit (.bool false)], args := [d1, d2, d3] }
  | _ => none }
def FnExactClassOfColourWrongFalsely : Prop := fnExactClassOfColourRow.holds Try.pinned (OpenSpec.ofChange fnExactClassOfColourWrong)

/-- 'laws.FnExactColouringOf': WHATEVER THE INPUT: true; the input reads as it did. -/
def fnExactColouringOfSpec : ChangeSpec := { name := "fnExactColouringOf", fn := fun _ => fun
  | [d1, d2, d3] => { results := [.lit (.bool true)], args := [d1, d2, d3] }
  | _ => none }
def fnExactColouringOfRow : OpenClaim := { program := "ytdnofmicjgppnaa", sum := "36e0805ad11a2ba87d6060bd6deb985582413614a90bfb1b185bdcf9fcac00e3", func := "loop.example/g01362/laws.FnExactColouringOf", spec := "fnExactColouringOf", unfollowed := true, recurses := true, apart := false }
def FnExactColouringOfSaid : Prop := fnExactColouringOfRow.holds Try.pinned (OpenSpec.ofChange fnExactColouringOfSpec)

/-- ITS FALSE NEIGHBOUR: 'it returns false'. Refute it at one input. -/
def fnExactColouringOfWrong : ChangeSpec := { name := "fnExactColouringOf", fn := fun _ => fun
  | [d1, d2, d3] => { results := [.lit (.bool false)], args := [d1, d2, d3] }
  | _ => none }
def FnExactColouringOfWrongFalsely : Prop := fnExactColouringOfRow.holds Try.pinned (OpenSpec.ofChange fnExactColouringOfWrong)

/-- 'laws.FnExactBySquares': WHATEVER THE INPUT: true; the input reads as it did. -/
def fnExactBySquaresSpec : ChangeSpec := { name := "fnExactBySquares", fn := fun _ => fun
  | [d] => { results := [.lit (.bool true)], args := [d] }
  | _ => none }
def fnExactBySquaresRow : OpenClaim := { program := "ytdnofmicjgppnaa", sum := "36e0805ad11a2ba87d6060bd6deb985582413614a90bfb1b185bdcf9fcac00e3", func := "loop.example/g01362/laws.FnExactBySquares", spec := "fnExactBySquares", unfollowed := true, recurses := true, apart := false }
def FnExactBySquaresSaid : Prop := fnExactBySquaresRow.holds Try.pinned (OpenSpec.ofChange fnExactBySquaresSpec)

/-- ITS FALSE NEIGHBOUR: 'it returns false'. Refute it at one input. -/
def fnExactBySquaresWrong : ChangeSpec := { name := "fnExactBySquares", fn := fun _ => fun
  | [d] => { results := [.lit (.bool false)], args := [d] }
  | _ => none }
def FnExactBySquaresWrongFalsely : Prop := fnExactBySquaresRow.holds Try.pinned (OpenSpec.ofChange fnExactBySquaresWrong)

/-- 'laws.FnExactReflectPart': WHATEVER THE INPUT: true; the input reads as it did. -/
def fnExactReflectPartSpec : ChangeSpec := { name := "fnExactReflectPart", fn := fun _ => fun
  | [d1, d2] => { results := [.lit (.bool true)], args := [d1, d2] }
  | _ => none }
def fnExactReflectPartRow : OpenClaim := { program := "ytdnofmicjgppnaa", sum := "36e0805ad11a2ba87d6060bd6deb985582413614a90bfb1b185bdcf9fcac00e3", func := "loop.example/g01362/laws.FnExactReflectPart", spec := "fnExactReflectPart", unfollowed := true, recurses := true, apart := false }
def FnExactReflectPartSaid : Prop := fnExactReflectPartRow.holds Try.pinned (OpenSpec.ofChange fnExactReflectPartSpec)

/-- ITS FALSE NEIGHBOUR: 'it returns false'. Refute it at one input. -/
def fnExactReflectPartWrong : ChangeSpec := { name := "fnExactReflectPart", fn := fun _ => fun
  | [d1, d2] => { results := [.lit (.bool false)], args := [d1, d2] }
  | _ => none }
def FnExactReflectPartWrongFalsely : Prop := fnExactReflectPartRow.holds Try.pinned (OpenSpec.ofChange fnExactReflectPartWrong)

/-- 'laws.FnExactCountEdges': WHATEVER THE INPUT: true; the input reads as it did. -/
def fnExactCountEdgesSpec : ChangeSpec := { name := "fnExactCountEdges", fn := fun _ => fun
  | [d] => { results := [.lit (.bool true)], args := [d] }
  | _ => none }
def fnExactCountEdgesRow : OpenClaim := { program := "ytdnofmicjgppnaa", sum := "36e0805ad11a2ba87d6060bd6deb985582413614a90bfb1b185bdcf9fcac00e3", func := "loop.example/g01362/laws.FnExactCountEdges", spec := "fnExactCountEdges", unfollowed := true, recurses := true, apart := false }
def FnExactCountEdgesSaid : Prop := fnExactCountEdgesRow.holds Try.pinned (OpenSpec.ofChange fnExactCountEdgesSpec)

/-- ITS FALSE NEIGHBOUR: 'it returns false'. Refute it at one input. -/
def fnExactCountEdgesWrong : ChangeSpec := { name := "fnExactCountEdges", fn := fun _ => fun
  | [d] => { results := [.lit (.bool false)], args := [d] }
  | _ => none }
def FnExactCountEdgesWrongFalsely : Prop := fnExactCountEdgesRow.holds Try.pinned (OpenSpec.ofChange fnExactCountEdgesWrong)

/-- 'laws.FnExactColourOf': WHATEVER THE INPUT: true; the input reads as it did. -/
def fnExactColourOfSpec : ChangeSpec := { name := "fnExactColourOf", fn := fun _ => fun
  | [d1, d2, d3] => { results := [.lit (.bool true)], args := [d1, d2, d3] }
  | _ => none }
def fnExactColourOfRow : OpenClaim := { program := "ytdnofmicjgppnaa", sum := "36e0805ad11a2ba87d6060bd6deb985582413614a90bfb1b185bdcf9fcac00e3", func := "loop.example/g01362/laws.FnExactColourOf", spec := "fnExactColourOf", unfollowed := true, recurses := true, apart := false }
def FnExactColourOfSaid : Prop := fnExactColourOfRow.holds Try.pinned (OpenSpec.ofChange fnExactColourOfSpec)

/-- ITS FALSE NEIGHBOUR: 'it returns false'. Refute it at one input. -/
def fnExactColourOfWrong : ChangeSpec := { name := "fnExactColourOf", fn := fun _ => fun
  | [d1, d2, d3] => { results := [.lit (.bool false)], args := [d1, d2, d3] }
  | _ => none }
def FnExactColourOfWrongFalsely : Prop := fnExactColourOfRow.holds Try.pinned (OpenSpec.ofChange fnExactColourOfWrong)

/-- 'laws.FnExactDigitalOf': WHATEVER THE INPUT: true; the input reads as it did. -/
def fnExactDigitalOfSpec : ChangeSpec := { name := "fnExactDigitalOf", fn := fun _ => fun
  | [d1, d2, d3] => { results := [.lit (.bool true)], args := [d1, d2, d3] }
  | _ => none }
def fnExactDigitalOfRow : OpenClaim := { program := "ytdnofmicjgppnaa", sum := "36e0805ad11a2ba87d6060bd6deb985582413614a90bfb1b185bdcf9fcac00e3", func := "loop.example/g01362/laws.FnExactDigitalOf", spec := "fnExactDigitalOf", unfollowed := true, recurses := true, apart := false }
def FnExactDigitalOfSaid : Prop := fnExactDigitalOfRow.holds Try.pinned (OpenSpec.ofChange fnExactDigitalOfSpec)

/-- ITS FALSE NEIGHBOUR: 'it returns false'. Refute it at one input. -/
def fnExactDigitalOfWrong : ChangeSpec := { name := "fnExactDigitalOf", fn := fun _ => fun
  | [d1, d2, d3] => { results := [.lit (.bool false)], args := [d1, d2, d3] }
  | _ => none }
def FnExactDigitalOfWrongFalsely : Prop := fnExactDigitalOfRow.holds Try.pinned (OpenSpec.ofChange fnExactDigitalOfWrong)

/-- 'laws.FnExactCountFaults': WHATEVER THE INPUT: true; the input reads as it did. -/
def fnExactCountFaultsSpec : ChangeSpec := { name := "fnExactCountFaults", fn := fun _ => fun
  | [d1, d2, d3] => { results := [.lit (.bool true)], args := [d1, d2, d3] }
  | _ => none }
def fnExactCountFaultsRow : OpenClaim := { program := "ytdnofmicjgppnaa", sum := "36e0805ad11a2ba87d6060bd6deb985582413614a90bfb1b185bdcf9fcac00e3", func := "loop.example/g01362/laws.FnExactCountFaults", spec := "fnExactCountFaults", unfollowed := true, recurses := true, apart := false }
def FnExactCountFaultsSaid : Prop := fnExactCountFaultsRow.holds Try.pinned (OpenSpec.ofChange fnExactCountFaultsSpec)

/-- ITS FALSE NEIGHBOUR: 'it returns false'. Refute it at one input. -/
def fnExactCountFaultsWrong : ChangeSpec := { name := "fnExactCountFaults", fn := fun _ => fun
  | [d1, d2, d3] => { results := [.lit (.bool false)], args := [d1, d2, d3] }
  | _ => none }
def FnExactCountFaultsWrongFalsely : Prop := fnExactCountFaultsRow.holds Try.pinned (OpenSpec.ofChange fnExactCountFaultsWrong)

/-- 'laws.FnExactIsFree': WHATEVER THE INPUT: true; the input reads as it did. -/
def fnExactIsFreeSpec : ChangeSpec := { name := "fnExactIsFree", fn := fun _ => fun
  | [d1, d2, d3] => { results := [.lit (.bool true)], args := [d1, d2, d3] }
  | _ => none }
def fnExactIsFreeRow : OpenClaim := { program := "ytdnofmicjgppnaa", sum := "36e0805ad11a2ba87d6060bd6deb985582413614a90bfb1b185bdcf9fcac00e3", func := "loop.example/g01362/laws.FnExactIsFree", spec := "fnExactIsFree", unfollowed := true, recurses := true, apart := false }
def FnExactIsFreeSaid : Prop := fnExactIsFreeRow.holds Try.pinned (OpenSpec.ofChange fnExactIsFreeSpec)

/-- ITS FALSE NEIGHBOUR: 'it returns false'. Refute it at one input. -/
def fnExactIsFreeWrong : ChangeSpec := { name := "fnExactIsFree", fn := fun _ => fun
  | [d1, d2, d3] => { results := [.lit (.bool false)], args := [d1, d2, d3] }
  | _ => none }
def FnExactIsFreeWrongFalsely : Prop := fnExactIsFreeRow.holds Try.pinned (OpenSpec.ofChange fnExactIsFreeWrong)

/-- 'laws.FnExactColouringOfPart': WHATEVER THE INPUT: true; the input reads as it did. -/
def fnExactColouringOfPartSpec : ChangeSpec := { name := "fnExactColouringOfPart", fn := fun _ => fun
  | [d1, d2] => { results := [.lit (.bool true)], args := [d1, d2] }
  | _ => none }
def fnExactColouringOfPartRow : OpenClaim := { program := "ytdnofmicjgppnaa", sum := "36e0805ad11a2ba87d6060bd6deb985582413614a90bfb1b185bdcf9fcac00e3", func := "loop.example/g01362/laws.FnExactColouringOfPart", spec := "fnExactColouringOfPart", unfollowed := true, recurses := true, apart := false }
def FnExactColouringOfPartSaid : Prop := fnExactColouringOfPartRow.holds Try.pinned (OpenSpec.ofChange fnExactColouringOfPartSpec)

/-- ITS FALSE NEIGHBOUR: 'it returns false'. Refute it at one input. -/
def fnExactColouringOfPartWrong : ChangeSpec := { name := "fnExactColouringOfPart", fn := fun _ => fun
  | [d1, d2] => { results := [.lit (.bool false)], args := [d1, d2] }
  | _ => none }
def FnExactColouringOfPartWrongFalsely : Prop := fnExactColouringOfPartRow.holds Try.pinned (OpenSpec.ofChange fnExactColouringOfPartWrong)

/-- 'laws.FnExactCountFree': WHATEVER THE INPUT: true; the input reads as it did. -/
def fnExactCountFreeSpec : ChangeSpec := { name := "fnExactCountFree", fn := fun _ => fun
  | [d1, d2, d3] => { results := [.lit (.bool true)], args := [d1, d2, d3] }
  | _ => none }
def fnExactCountFreeRow : OpenClaim := { program := "ytdnofmicjgppnaa", sum := "36e0805ad11a2ba87d6060bd6deb985582413614a90bfb1b185bdcf9fcac00e3", func := "loop.example/g01362/laws.FnExactCountFree", spec := "fnExactCountFree", unfollowed := true, recurses := true, apart := false }
def FnExactCountFreeSaid : Prop := fnExactCountFreeRow.holds Try.pinned (OpenSpec.ofChange fnExactCountFreeSpec)

/-- ITS FALSE NEIGHBOUR: 'it returns false'. Refute it at one input. -/
def fnExactCountFreeWrong : ChangeSpec := { name := "fnExactCountFree", fn := fun _ => fun
  | [d1, d2, d3] => { results := [.lit (.bool false)], args := [d1, d2, d3] }
  | _ => none }
def FnExactCountFreeWrongFalsely : Prop := fnExactCountFreeRow.holds Try.pinned (OpenSpec.ofChange fnExactCountFreeWrong)

/- THE SECOND FORM. 'bulk': how many values and letters a reading holds, each counted each time it is reached (what is shared counts as often as it is met; a slice's spare places count too). A statement '..UptoSaid' is the law's where the arguments, and the package variables that the reading takes, are together of bulk at most 1048576: NARROWER than '..Said'. Prove '..Said' where nothing that the law and all that it calls make is longer than what came in: it says more and counts as full. Else prove '..UptoSaid'. A law counts once. -/
mutual
def uptoBulk {H : Type} : DataW H → Nat
  | .lit (.string bytes) => bytes.length + 1
  | .lit _ => 1
  | .nil => 1
  | .ptr d => uptoBulk d + 1
  | .slice elems spare => uptoBulkAll elems + uptoBulkAll spare + 1
  | .agg parts => uptoBulkAll parts + 1
  | .iface _ d => uptoBulk d + 1
  | .map entries => uptoBulkEntries entries + 1
  | .held _ => 1
def uptoBulkAll {H : Type} : List (DataW H) → Nat
  | [] => 0
  | d :: r => uptoBulk d + uptoBulkAll r
def uptoBulkEntries {H : Type} : List (Lit × DataW H) → Nat
  | [] => 0
  | x :: r => uptoBulkEntry x + uptoBulkEntries r
def uptoBulkEntry {H : Type} : Lit × DataW H → Nat
  | (.string bytes, d) => bytes.length + uptoBulk d + 1
  | (_, d) => uptoBulk d + 1
 end
def uptoSmall : (H : Type) → List (DataW H) → Bool := fun _ ds => decide (uptoBulkAll ds ≤ 1048576)
def OpenSpec.upto (s : _root_.Go.ChangeSpec) : _root_.Go.OpenSpec := { _root_.Go.OpenSpec.ofChange s with cond := some uptoSmall }

/-- 'laws.FnExactClassOfColour', WHERE WHAT IT READS IS OF BULK AT MOST 1048576: true; the input reads as it did. -/
def fnExactClassOfColourUptoRow : OpenClaim := { program := "ytdnofmicjgppnaa", sum := "36e0805ad11a2ba87d6060bd6deb985582413614a90bfb1b185bdcf9fcac00e3", func := "loop.example/g01362/laws.FnExactClassOfColour", spec := "fnExactClassOfColour", unfollowed := true, recurses := true, apart := false, narrowed := true }
def FnExactClassOfColourUptoSaid : Prop := fnExactClassOfColourUptoRow.holds Try.pinned (OpenSpec.upto fnExactClassOfColourSpec)

/-- 'laws.FnExactColouringOf', WHERE WHAT IT READS IS OF BULK AT MOST 1048576: true; the input reads as it did. -/
def fnExactColouringOfUptoRow : OpenClaim := { program := "ytdnofmicjgppnaa", sum := "36e0805ad11a2ba87d6060bd6deb985582413614a90bfb1b185bdcf9fcac00e3", func := "loop.example/g01362/laws.FnExactColouringOf", spec := "fnExactColouringOf", unfollowed := true, recurses := true, apart := false, narrowed := true }
def FnExactColouringOfUptoSaid : Prop := fnExactColouringOfUptoRow.holds Try.pinned (OpenSpec.upto fnExactColouringOfSpec)

/-- 'laws.FnExactBySquares', WHERE WHAT IT READS IS OF BULK AT MOST 1048576: true; the input reads as it did. -/
def fnExactBySquaresUptoRow : OpenClaim := { program := "ytdnofmicjgppnaa", sum := "36e0805ad11a2ba87d6060bd6deb985582413614a90bfb1b185bdcf9fcac00e3", func := "loop.example/g01362/laws.FnExactBySquares", spec := "fnExactBySquares", unfollowed := true, recurses := true, apart := false, narrowed := true }
def FnExactBySquaresUptoSaid : Prop := fnExactBySquaresUptoRow.holds Try.pinned (OpenSpec.upto fnExactBySquaresSpec)

/-- 'laws.FnExactReflectPart', WHERE WHAT IT READS IS OF BULK AT MOST 1048576: true; the input reads as it did. -/
def fnExactReflectPartUptoRow : OpenClaim := { program := "ytdnofmicjgppnaa", sum := "36e0805ad11a2ba87d6060bd6deb985582413614a90bfb1b185bdcf9fcac00e3", func := "loop.example/g01362/laws.FnExactReflectPart", spec := "fnExactReflectPart", unfollowed := true, recurses := true, apart := false, narrowed := true }
def FnExactReflectPartUptoSaid : Prop := fnExactReflectPartUptoRow.holds Try.pinned (OpenSpec.upto fnExactReflectPartSpec)

/-- 'laws.FnExactCountEdges', WHERE WHAT IT READS IS OF BULK AT MOST 1048576: true; the input reads as it did. -/
def fnExactCountEdgesUptoRow : OpenClaim := { program := "ytdnofmicjgppnaa", sum := "36e0805ad11a2ba87d6060bd6deb985582413614a90bfb1b185bdcf9fcac00e3", func := "loop.example/g01362/laws.FnExactCountEdges", spec := "fnExactCountEdges", unfollowed := true, recurses := true, apart := false, narrowed := true }
def FnExactCountEdgesUptoSaid : Prop := fnExactCountEdgesUptoRow.holds Try.pinned (OpenSpec.upto fnExactCountEdgesSpec)

/-- 'laws.FnExactColourOf', WHERE WHAT IT READS IS OF BULK AT MOST 1048576: true; the input reads as it did. -/
def fnExactColourOfUptoRow : OpenClaim := { program := "ytdnofmicjgppnaa", sum := "36e0805ad11a2ba87d6060bd6deb985582413614a90bfb1b185bdcf9fcac00e3", func := "loop.example/g01362/laws.FnExactColourOf", spec := "fnExactColourOf", unfollowed := true, recurses := true, apart := false, narrowed := true }
def FnExactColourOfUptoSaid : Prop := fnExactColourOfUptoRow.holds Try.pinned (OpenSpec.upto fnExactColourOfSpec)

/-- 'laws.FnExactDigitalOf', WHERE WHAT IT READS IS OF BULK AT MOST 1048576: true; the input reads as it did. -/
def fnExactDigitalOfUptoRow : OpenClaim := { program := "ytdnofmicjgppnaa", sum := "36e0805ad11a2ba87d6060bd6deb985582413614a90bfb1b185bdcf9fcac00e3", func := "loop.example/g01362/laws.FnExactDigitalOf", spec := "fnExactDigitalOf", unfollowed := true, recurses := true, apart := false, narrowed := true }
def FnExactDigitalOfUptoSaid : Prop := fnExactDigitalOfUptoRow.holds Try.pinned (OpenSpec.upto fnExactDigitalOfSpec)

/-- 'laws.FnExactCountFaults', WHERE WHAT IT READS IS OF BULK AT MOST 1048576: true; the input reads as it did. -/
def fnExactCountFaultsUptoRow : OpenClaim := { program := "ytdnofmicjgppnaa", sum := "36e0805ad11a2ba87d6060bd6deb985582413614a90bfb1b185bdcf9fcac00e3", func := "loop.example/g01362/laws.FnExactCountFaults", spec := "fnExactCountFaults", unfollowed := true, recurses := true, apart := false, narrowed := true }
def FnExactCountFaultsUptoSaid : Prop := fnExactCountFaultsUptoRow.holds Try.pinned (OpenSpec.upto fnExactCountFaultsSpec)

/-- 'laws.FnExactIsFree', WHERE WHAT IT READS IS OF BULK AT MOST 1048576: true; the input reads as it did. -/
def fnExactIsFreeUptoRow : OpenClaim := { program := "ytdnofmicjgppnaa", sum := "36e0805ad11a2ba87d6060bd6deb985582413614a90bfb1b185bdcf9fcac00e3", func := "loop.example/g01362/laws.FnExactIsFree", spec := "fnExactIsFree", unfollowed := true, recurses := true, apart := false, narrowed := true }
def FnExactIsFreeUptoSaid : Prop := fnExactIsFreeUptoRow.holds Try.pinned (OpenSpec.upto fnExactIsFreeSpec)

/-- 'laws.FnExactColouringOfPart', WHERE WHAT IT READS IS OF BULK AT MOST 1048576: true; the input reads as it did. -/
def fnExactColouringOfPartUptoRow : OpenClaim := { program := "ytdnofmicjgppnaa", sum := "36e0805ad11a2ba87d6060bd6deb985582413614a90bfb1b185bdcf9fcac00e3", func := "loop.example/g01362/laws.FnExactColouringOfPart", spec := "fnExactColouringOfPart", unfollowed := true, recurses := true, apart := false, narrowed := true }
def FnExactColouringOfPartUptoSaid : Prop := fnExactColouringOfPartUptoRow.holds Try.pinned (OpenSpec.upto fnExactColouringOfPartSpec)

/-- 'laws.FnExactCountFree', WHERE WHAT IT READS IS OF BULK AT MOST 1048576: true; the input reads as it did. -/
def fnExactCountFreeUptoRow : OpenClaim := { program := "ytdnofmicjgppnaa", sum := "36e0805ad11a2ba87d6060bd6deb985582413614a90bfb1b185bdcf9fcac00e3", func := "loop.example/g01362/laws.FnExactCountFree", spec := "fnExactCountFree", unfollowed := true, recurses := true, apart := false, narrowed := true }
def FnExactCountFreeUptoSaid : Prop := fnExactCountFreeUptoRow.holds Try.pinned (OpenSpec.upto fnExactCountFreeSpec)

end Rows
end Go.Proofs.Ytdnofmicjgppnaa
