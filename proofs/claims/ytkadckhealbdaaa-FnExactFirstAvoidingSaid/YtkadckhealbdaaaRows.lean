/-
  No cell of these rows narrows 'for every input' (looked for: loops, veiled, ifaces, maps, wideKeys, modest, calm, conditions, laid).
  DERIVED. THE GIVEN ROWS OF THIS SEAT. 11 by the template 'for every input the law returns true; each argument reads behind the call as it read before'; 0 by the template 'total and deterministic' (their statements: YtkadckhealbdaaaTotals.lean).
  GIVEN WITH THE SEED: the statements are not yours to turn. If you find one false, say at which input.
  Laid BY PROGRAM, IN A SANDBOX (cutbox-rows.mjs): the forced cells as the released guide's own fill.sh prints them over the translation 84af212a2f3f2e6f… (all of the seat's roots in one cut). By AI agents, Wed Nov 11 2026. No macro, syntax, notation, axiom, sorry.
-/
import Derived.Test.YtkadckhealbdaaaChecked
import GoSem.Claim
import GoSem.ClaimJoined
import GoSem.ClaimMapViews
import Derived.JoinedTies
import Derived.KernelRfl
namespace Go.Proofs.Ytkadckhealbdaaa
/- THE CELL 'sum', in the pinned program and in every row, IS THE sha256 OF THE DUMP (.gsa) THAT YtkadckhealbdaaaProg.lean LOADS. Nothing in Lean hashes anything: it is a label: what it is worth is what the hold of that sum in a sandbox is worth. -/
noncomputable def Try.pinned : Pinned := { name := "ytkadckhealbdaaa", sum := "84af212a2f3f2e6f76b70d885da71df1888923977a2b9595026af50b3eccdffc", checked := Try.checked }
namespace Rows
def none {H : Type} : Left H := { results := [], args := [] }

/-- 'laws.FnExactJoinColours': WHATEVER THE INPUT: true; the input reads as it did. -/
def fnExactJoinColoursSpec : ChangeSpec := { name := "fnExactJoinColours", fn := fun _ => fun
  | [d1, d2, d3] => { results := [.lit (.bool true)], args := [d1, d2, d3] }
  | _ => none }
def fnExactJoinColoursRow : OpenClaim := { program := "ytkadckhealbdaaa", sum := "84af212a2f3f2e6f76b70d885da71df1888923977a2b9595026af50b3eccdffc", func := "loop.example/g01362/laws.FnExactJoinColours", spec := "fnExactJoinColours", unfollowed := true, recurses := true, apart := false }
def FnExactJoinColoursSaid : Prop := fnExactJoinColoursRow.holds Try.pinned (OpenSpec.ofChange fnExactJoinColoursSpec)

/-- ITS FALSE NEIGHBOUR: 'it returns false'. Refute it at one input. -/
def fnExactJoinColoursWrong : ChangeSpec := { name := "fnExactJoinColours", fn := fun _ => fun
  | [d1, d2, d3] => { results := [.lit (.bool false)], args := [d1, d2, d3] }
  | _ => none }
def FnExactJoinColoursWrongFalsely : Prop := fnExactJoinColoursRow.holds Try.pinned (OpenSpec.ofChange fnExactJoinColoursWrong)

/-- 'laws.FnExactFirstFree': WHATEVER THE INPUT: true; the input reads as it did. -/
def fnExactFirstFreeSpec : ChangeSpec := { name := "fnExactFirstFree", fn := fun _ => fun
  | [d1, d2, d3] => { results := [.lit (.bool true)], args := [d1, d2, d3] }
  | _ => none }
def fnExactFirstFreeRow : OpenClaim := { program := "ytkadckhealbdaaa", sum := "84af212a2f3f2e6f76b70d885da71df1888923977a2b9595026af50b3eccdffc", func := "loop.example/g01362/laws.FnExactFirstFree", spec := "fnExactFirstFree", unfollowed := true, recurses := true, apart := false }
def FnExactFirstFreeSaid : Prop := fnExactFirstFreeRow.holds Try.pinned (OpenSpec.ofChange fnExactFirstFreeSpec)

/-- ITS FALSE NEIGHBOUR: 'it returns false'. Refute it at one input. -/
def fnExactFirstFreeWrong : ChangeSpec := { name := "fnExactFirstFree", fn := fun _ => fun
  | [d1, d2, d3] => { results := [.lit (.bool false)], args := [d1, d2, d3] }
  | _ => none }
def FnExactFirstFreeWrongFalsely : Prop := fnExactFirstFreeRow.holds Try.pinned (OpenSpec.ofChange fnExactFirstFreeWrong)

/-- 'laws.FnExactColoursNext': WHATEVER THE INPUT: true; the input reads as it did. -/
def fnExactColoursNextSpec : ChangeSpec := { name := "fnExactColoursNext", fn := fun _ => fun
  | [d1, d2, d3] => { results := [.lit (.bool true)], args := [d1, d2, d3] }
  | _ => none }
def fnExactColoursNextRow : OpenClaim := { program := "ytkadckhealbdaaa", sum := "84af212a2f3f2e6f76b70d885da71df1888923977a2b9595026af50b3eccdffc", func := "loop.example/g01362/laws.FnExactColoursNext", spec := "fnExactColoursNext", unfollowed := true, recurses := true, apart := false }
def FnExactColoursNextSaid : Prop := fnExactColoursNextRow.holds Try.pinned (OpenSpec.ofChange fnExactColoursNextSpec)

/-- ITS FALSE NEIGHBOUR: 'it returns false'. Refute it at one input. -/
def fnExactColoursNextWrong : ChangeSpec := { name := "fnExactColoursNext", fn := fun _ => fun
  | [d1, d2, d3] => { results := [.lit (.bool false)], args := [d1, d2, d3] }
  | _ => none }
def FnExactColoursNextWrongFalsely : Prop := fnExactColoursNextRow.holds Try.pinned (OpenSpec.ofChange fnExactColoursNextWrong)

/-- 'laws.FnExactAreIsomorphic': WHATEVER THE INPUT: true; the input reads as it did. -/
def fnExactAreIsomorphicSpec : ChangeSpec := { name := "fnExactAreIsomorphic", fn := fun _ => fun
  | [d1, d2] => { results := [.lit (.bool true)], args := [d1, d2] }
  | _ => none }
def fnExactAreIsomorphicRow : OpenClaim := { program := "ytkadckhealbdaaa", sum := "84af212a2f3f2e6f76b70d885da71df1888923977a2b9595026af50b3eccdffc", func := "loop.example/g01362/laws.FnExactAreIsomorphic", spec := "fnExactAreIsomorphic", unfollowed := true, recurses := true, apart := false }
def FnExactAreIsomorphicSaid : Prop := fnExactAreIsomorphicRow.holds Try.pinned (OpenSpec.ofChange fnExactAreIsomorphicSpec)

/-- ITS FALSE NEIGHBOUR: 'it returns false'. Refute it at one input. -/
def fnExactAreIsomorphicWrong : ChangeSpec := { name := "fnExactAreIsomorphic", fn := fun _ => fun
  | [d1, d2] => { results := [.lit (.bool false)], args := [d1, d2] }
  | _ => none }
def FnExactAreIsomorphicWrongFalsely : Prop := fnExactAreIsomorphicRow.holds Try.pinned (OpenSpec.ofChange fnExactAreIsomorphicWrong)

/-- 'laws.FnExactCountCircular': WHATEVER THE INPUT: true; the input reads as it did. -/
def fnExactCountCircularSpec : ChangeSpec := { name := "fnExactCountCircular", fn := fun _ => fun
  | [d1, d2] => { results := [.lit (.bool true)], args := [d1, d2] }
  | _ => none }
def fnExactCountCircularRow : OpenClaim := { program := "ytkadckhealbdaaa", sum := "84af212a2f3f2e6f76b70d885da71df1888923977a2b9595026af50b3eccdffc", func := "loop.example/g01362/laws.FnExactCountCircular", spec := "fnExactCountCircular", unfollowed := true, recurses := true, apart := false }
def FnExactCountCircularSaid : Prop := fnExactCountCircularRow.holds Try.pinned (OpenSpec.ofChange fnExactCountCircularSpec)

/-- ITS FALSE NEIGHBOUR: 'it returns false'. Refute it at one input. -/
def fnExactCountCircularWrong : ChangeSpec := { name := "fnExactCountCircular", fn := fun _ => fun
  | [d1, d2] => { results := [.lit (.bool false)], args := [d1, d2] }
  | _ => none }
def FnExactCountCircularWrongFalsely : Prop := fnExactCountCircularRow.holds Try.pinned (OpenSpec.ofChange fnExactCountCircularWrong)

/-- 'laws.FnExactGreatestCircular': WHATEVER THE INPUT: true; the input reads as it did. -/
def fnExactGreatestCircularSpec : ChangeSpec := { name := "fnExactGreatestCircular", fn := fun _ => fun
  | [d] => { results := [.lit (.bool true)], args := [d] }
  | _ => none }
def fnExactGreatestCircularRow : OpenClaim := { program := "ytkadckhealbdaaa", sum := "84af212a2f3f2e6f76b70d885da71df1888923977a2b9595026af50b3eccdffc", func := "loop.example/g01362/laws.FnExactGreatestCircular", spec := "fnExactGreatestCircular", unfollowed := true, recurses := true, apart := false }
def FnExactGreatestCircularSaid : Prop := fnExactGreatestCircularRow.holds Try.pinned (OpenSpec.ofChange fnExactGreatestCircularSpec)

/-- ITS FALSE NEIGHBOUR: 'it returns false'. Refute it at one input. -/
def fnExactGreatestCircularWrong : ChangeSpec := { name := "fnExactGreatestCircular", fn := fun _ => fun
  | [d] => { results := [.lit (.bool false)], args := [d] }
  | _ => none }
def FnExactGreatestCircularWrongFalsely : Prop := fnExactGreatestCircularRow.holds Try.pinned (OpenSpec.ofChange fnExactGreatestCircularWrong)

/-- 'laws.FnExactFindRenumbering': WHATEVER THE INPUT: true; the input reads as it did. -/
def fnExactFindRenumberingSpec : ChangeSpec := { name := "fnExactFindRenumbering", fn := fun _ => fun
  | [d1, d2] => { results := [.lit (.bool true)], args := [d1, d2] }
  | _ => none }
def fnExactFindRenumberingRow : OpenClaim := { program := "ytkadckhealbdaaa", sum := "84af212a2f3f2e6f76b70d885da71df1888923977a2b9595026af50b3eccdffc", func := "loop.example/g01362/laws.FnExactFindRenumbering", spec := "fnExactFindRenumbering", unfollowed := true, recurses := true, apart := false }
def FnExactFindRenumberingSaid : Prop := fnExactFindRenumberingRow.holds Try.pinned (OpenSpec.ofChange fnExactFindRenumberingSpec)

/-- ITS FALSE NEIGHBOUR: 'it returns false'. Refute it at one input. -/
def fnExactFindRenumberingWrong : ChangeSpec := { name := "fnExactFindRenumbering", fn := fun _ => fun
  | [d1, d2] => { results := [.lit (.bool false)], args := [d1, d2] }
  | _ => none }
def FnExactFindRenumberingWrongFalsely : Prop := fnExactFindRenumberingRow.holds Try.pinned (OpenSpec.ofChange fnExactFindRenumberingWrong)

/-- 'laws.FnExactCountAvoiding': WHATEVER THE INPUT: true; the input reads as it did. -/
def fnExactCountAvoidingSpec : ChangeSpec := { name := "fnExactCountAvoiding", fn := fun _ => fun
  | [d1, d2] => { results := [.lit (.bool true)], args := [d1, d2] }
  | _ => none }
def fnExactCountAvoidingRow : OpenClaim := { program := "ytkadckhealbdaaa", sum := "84af212a2f3f2e6f76b70d885da71df1888923977a2b9595026af50b3eccdffc", func := "loop.example/g01362/laws.FnExactCountAvoiding", spec := "fnExactCountAvoiding", unfollowed := true, recurses := true, apart := false }
def FnExactCountAvoidingSaid : Prop := fnExactCountAvoidingRow.holds Try.pinned (OpenSpec.ofChange fnExactCountAvoidingSpec)

/-- ITS FALSE NEIGHBOUR: 'it returns false'. Refute it at one input. -/
def fnExactCountAvoidingWrong : ChangeSpec := { name := "fnExactCountAvoiding", fn := fun _ => fun
  | [d1, d2] => { results := [.lit (.bool false)], args := [d1, d2] }
  | _ => none }
def FnExactCountAvoidingWrongFalsely : Prop := fnExactCountAvoidingRow.holds Try.pinned (OpenSpec.ofChange fnExactCountAvoidingWrong)

/-- 'laws.FnExactFirstCircular': WHATEVER THE INPUT: true; the input reads as it did. -/
def fnExactFirstCircularSpec : ChangeSpec := { name := "fnExactFirstCircular", fn := fun _ => fun
  | [d1, d2] => { results := [.lit (.bool true)], args := [d1, d2] }
  | _ => none }
def fnExactFirstCircularRow : OpenClaim := { program := "ytkadckhealbdaaa", sum := "84af212a2f3f2e6f76b70d885da71df1888923977a2b9595026af50b3eccdffc", func := "loop.example/g01362/laws.FnExactFirstCircular", spec := "fnExactFirstCircular", unfollowed := true, recurses := true, apart := false }
def FnExactFirstCircularSaid : Prop := fnExactFirstCircularRow.holds Try.pinned (OpenSpec.ofChange fnExactFirstCircularSpec)

/-- ITS FALSE NEIGHBOUR: 'it returns false'. Refute it at one input. -/
def fnExactFirstCircularWrong : ChangeSpec := { name := "fnExactFirstCircular", fn := fun _ => fun
  | [d1, d2] => { results := [.lit (.bool false)], args := [d1, d2] }
  | _ => none }
def FnExactFirstCircularWrongFalsely : Prop := fnExactFirstCircularRow.holds Try.pinned (OpenSpec.ofChange fnExactFirstCircularWrong)

/-- 'laws.FnExactFirstAvoiding': WHATEVER THE INPUT: true; the input reads as it did. -/
def fnExactFirstAvoidingSpec : ChangeSpec := { name := "fnExactFirstAvoiding", fn := fun _ => fun
  | [d1, d2] => { results := [.lit (.bool true)], args := [d1, d2] }
  | _ => none }
def fnExactFirstAvoidingRow : OpenClaim := { program := "ytkadckhealbdaaa", sum := "84af212a2f3f2e6f76b70d885da71df1888923977a2b9595026af50b3eccdffc", func := "loop.example/g01362/laws.FnExactFirstAvoiding", spec := "fnExactFirstAvoiding", unfollowed := true, recurses := true, apart := false }
def FnExactFirstAvoidingSaid : Prop := fnExactFirstAvoidingRow.holds Try.pinned (OpenSpec.ofChange fnExactFirstAvoidingSpec)

/-- ITS FALSE NEIGHBOUR: 'it returns false'. Refute it at one input. -/
def fnExactFirstAvoidingWrong : ChangeSpec := { name := "fnExactFirstAvoiding", fn := fun _ => fun
  | [d1, d2] => { results := [.lit (.bool false)], args := [d1, d2] }
  | _ => none }
def FnExactFirstAvoidingWrongFalsely : Prop := fnExactFirstAvoidingRow.holds Try.pinned (OpenSpec.ofChange fnExactFirstAvoidingWrong)

/-- 'laws.FnExactFindAlike': WHATEVER THE INPUT: true; the input reads as it did. -/
def fnExactFindAlikeSpec : ChangeSpec := { name := "fnExactFindAlike", fn := fun _ => fun
  | [d1, d2] => { results := [.lit (.bool true)], args := [d1, d2] }
  | _ => none }
def fnExactFindAlikeRow : OpenClaim := { program := "ytkadckhealbdaaa", sum := "84af212a2f3f2e6f76b70d885da71df1888923977a2b9595026af50b3eccdffc", func := "loop.example/g01362/laws.FnExactFindAlike", spec := "fnExactFindAlike", unfollowed := true, recurses := true, apart := false }
def FnExactFindAlikeSaid : Prop := fnExactFindAlikeRow.holds Try.pinned (OpenSpec.ofChange fnExactFindAlikeSpec)

/-- ITS FALSE NEIGHBOUR: 'it returns false'. Refute it at one input. -/
def fnExactFindAlikeWrong : ChangeSpec := { name := "fnExactFindAlike", fn := fun _ => fun
  | [d1, d2] => { results := [.lit (.bool false)], args := [d1, d2] }
  | _ => none }
def FnExactFindAlikeWrongFalsely : Prop := fnExactFindAlikeRow.holds Try.pinned (OpenSpec.ofChange fnExactFindAlikeWrong)

/- THE SECOND FORM. 'bulk': how many values and letters a reading holds, each counted each time it is reached (what is shared counts as often as it is met; a slice's spare places count too). A statement '..UptoSaid' is the law's where the arguments, and the package variables that the reading takes, are together of bulk at most 1048576: NARROWER than '..Said'. Prove '..Said' where nothing that the law and all that it calls make is longer than what came in: it says more and counts as full. Else prove '..UptoSaid'. A law counts once. -/
mutual
def uptoBulk {H : Type} : DataW H → Nat
  | .lit (.string bytes) => bytes.length + 1
  | .lit _ => 1
  | .nil => 1
  | .ptr d => uptoBulk d + 1
  | .slice elems spare => uptoBulkAll elems + uptoBulkAll spare + 1
  | .agg parts => uptoBulkAll parts + 1
  | .iface _ d => uptoBulk d + 1
  | .map entries => uptoBulkEntries entries + 1
  | .held _ => 1
def uptoBulkAll {H : Type} : List (DataW H) → Nat
  | [] => 0
  | d :: r => uptoBulk d + uptoBulkAll r
def uptoBulkEntries {H : Type} : List (Lit × DataW H) → Nat
  | [] => 0
  | x :: r => uptoBulkEntry x + uptoBulkEntries r
def uptoBulkEntry {H : Type} : Lit × DataW H → Nat
  | (.string bytes, d) => bytes.length + uptoBulk d + 1
  | (_, d) => uptoBulk d + 1
 end
def uptoSmall : (H : Type) → List (DataW H) → Bool := fun _ ds => decide (uptoBulkAll ds ≤ 1048576)
def OpenSpec.upto (s : _root_.Go.ChangeSpec) : _root_.Go.OpenSpec := { _root_.Go.OpenSpec.ofChange s with cond := some uptoSmall }

/-- 'laws.FnExactJoinColours', WHERE WHAT IT READS IS OF BULK AT MOST 1048576: true; the input reads as it did. -/
def fnExactJoinColoursUptoRow : OpenClaim := { program := "ytkadckhealbdaaa", sum := "84af212a2f3f2e6f76b70d885da71df1888923977a2b9595026af50b3eccdffc", func := "loop.example/g01362/laws.FnExactJoinColours", spec := "fnExactJoinColours", unfollowed := true, recurses := true, apart := false, narrowed := true }
def FnExactJoinColoursUptoSaid : Prop := fnExactJoinColoursUptoRow.holds Try.pinned (OpenSpec.upto fnExactJoinColoursSpec)

/-- 'laws.FnExactFirstFree', WHERE WHAT IT READS IS OF BULK AT MOST 1048576: true; the input reads as it did. -/
def fnExactFirstFreeUptoRow : OpenClaim := { program := "ytkadckhealbdaaa", sum := "84af212a2f3f2e6f76b70d885da71df1888923977a2b9595026af50b3eccdffc", func := "loop.example/g01362/laws.FnExactFirstFree", spec := "fnExactFirstFree", unfollowed := true, recurses := true, apart := false, narrowed := true }
def FnExactFirstFreeUptoSaid : Prop := fnExactFirstFreeUptoRow.holds Try.pinned (OpenSpec.upto fnExactFirstFreeSpec)

/-- 'laws.FnExactColoursNext', WHERE WHAT IT READS IS OF BULK AT MOST 1048576: true; the input reads as it did. -/
def fnExactColoursNextUptoRow : OpenClaim := { program := "ytkadckhealbdaaa", sum := "84af212a2f3f2e6f76b70d885da71df1888923977a2b9595026af50b3eccdffc", func := "loop.example/g01362/laws.FnExactColoursNext", spec := "fnExactColoursNext", unfollowed := true, recurses := true, apart := false, narrowed := true }
def FnExactColoursNextUptoSaid : Prop := fnExactColoursNextUptoRow.holds Try.pinned (OpenSpec.upto fnExactColoursNextSpec)

/-- 'laws.FnExactAreIsomorphic', WHERE WHAT IT READS IS OF BULK AT MOST 1048576: true; the input reads as it did. -/
def fnExactAreIsomorphicUptoRow : OpenClaim := { program := "ytkadckhealbdaaa", sum := "84af212a2f3f2e6f76b70d885da71df1888923977a2b9595026af50b3eccdffc", func := "loop.example/g01362/laws.FnExactAreIsomorphic", spec := "fnExactAreIsomorphic", unfollowed := true, recurses := true, apart := false, narrowed := true }
def FnExactAreIsomorphicUptoSaid : Prop := fnExactAreIsomorphicUptoRow.holds Try.pinned (OpenSpec.upto fnExactAreIsomorphicSpec)

/-- 'laws.FnExactCountCircular', WHERE WHAT IT READS IS OF BULK AT MOST 1048576: true; the input reads as it did. -/
def fnExactCountCircularUptoRow : OpenClaim := { program := "ytkadckhealbdaaa", sum := "84af212a2f3f2e6f76b70d885da71df1888923977a2b9595026af50b3eccdffc", func := "loop.example/g01362/laws.FnExactCountCircular", spec := "fnExactCountCircular", unfollowed := true, recurses := true, apart := false, narrowed := true }
def FnExactCountCircularUptoSaid : Prop := fnExactCountCircularUptoRow.holds Try.pinned (OpenSpec.upto fnExactCountCircularSpec)

/-- 'laws.FnExactGreatestCircular', WHERE WHAT IT READS IS OF BULK AT MOST 1048576: true; the input reads as it did. -/
def fnExactGreatestCircularUptoRow : OpenClaim := { program := "ytkadckhealbdaaa", sum := "84af212a2f3f2e6f76b70d885da71df1888923977a2b9595026af50b3eccdffc", func := "loop.example/g01362/laws.FnExactGreatestCircular", spec := "fnExactGreatestCircular", unfollowed := true, recurses := true, apart := false, narrowed := true }
def FnExactGreatestCircularUptoSaid : Prop := fnExactGreatestCircularUptoRow.holds Try.pinned (OpenSpec.upto fnExactGreatestCircularSpec)

/-- 'laws.FnExactFindRenumbering', WHERE WHAT IT READS IS OF BULK AT MOST 1048576: true; the input reads as it did. -/
def fnExactFindRenumberingUptoRow : OpenClaim := { program := "ytkadckhealbdaaa", sum := "84af212a2f3f2e6f76b70d885da71df1888923977a2b9595026af50b3eccdffc", func := "loop.example/g01362/laws.FnExactFindRenumbering", spec := "fnExactFindRenumbering", unfollowed := true, recurses := true, apart := false, narrowed := true }
def FnExactFindRenumberingUptoSaid : Prop := fnExactFindRenumberingUptoRow.holds Try.pinned (OpenSpec.upto fnExactFindRenumberingSpec)

/-- 'laws.FnExactCountAvoiding', WHERE WHAT IT READS IS OF BULK AT MOST 1048576: true; the input reads as it did. -/
def fnExactCountAvoidingUptoRow : OpenClaim := { program := "ytkadckhealbdaaa", sum := "84af212a2f3f2e6f76b70d885da71df1888923977a2b9595026af50b3eccdffc", func := "loop.example/g01362/laws.FnExactCountAvoiding", spec := "fnExactCountAvoiding", unfollowed := true, recurses := true, apart := false, narrowed := true }
def FnExactCountAvoidingUptoSaid : Prop := fnExactCountAvoidingUptoRow.holds Try.pinned (OpenSpec.upto fnExactCountAvoidingSpec)

/-- 'laws.FnExactFirstCircular', WHERE WHAT IT READS IS OF BULK AT MOST 1048576: true; the input reads as it did. -/
def fnExactFirstCircularUptoRow : OpenClaim := { program := "ytkadckhealbdaaa", sum := "84af212a2f3f2e6f76b70d885da71df1888923977a2b9595026af50b3eccdffc", func := "loop.example/g01362/laws.FnExactFirstCircular", spec := "fnExactFirstCircular", unfollowed := true, recurses := true, apart := false, narrowed := true }
def FnExactFirstCircularUptoSaid : Prop := fnExactFirstCircularUptoRow.holds Try.pinned (OpenSpec.upto fnExactFirstCircularSpec)

/-- 'laws.FnExactFirstAvoiding', WHERE WHAT IT READS IS OF BULK AT MOST 1048576: true; the input reads as it did. -/
def fnExactFirstAvoidingUptoRow : OpenClaim := { program := "ytkadckhealbdaaa", sum := "84af212a2f3f2e6f76b70d885da71df1888923977a2b9595026af50b3eccdffc", func := "loop.example/g01362/laws.FnExactFirstAvoiding", spec := "fnExactFirstAvoiding", unfollowed := true, recurses := true, apart := false, narrowed := true }
def FnExactFirstAvoidingUptoSaid : Prop := fnExactFirstAvoidingUptoRow.holds Try.pinned (OpenSpec.upto fnExactFirstAvoidingSpec)

/-- 'laws.FnExactFindAlike', WHERE WHAT IT READS IS OF BULK AT MOST 1048576: true; the input reads as it did. -/
def fnExactFindAlikeUptoRow : OpenClaim := { program := "ytkadckhealbdaaa", sum := "84af212a2f3f2e6f76b70d885da71df1888923977a2b9595026af50b3eccdffc", func := "loop.example/g01362/laws.FnExactFindAlike", spec := "fnExactFindAlike", unfollowed := true, recurses := true, apart := false, narrowed := true }
def FnExactFindAlikeUptoSaid : Prop := fnExactFindAlikeUptoRow.holds Try.pinned (OpenSpec.upto fnExactFindAlikeSpec)

end Rows
end Go.Proofs.Ytkadckhealbdaaa
