/-
  No cell of these rows narrows 'for every input' (looked for: loops, veiled, ifaces, maps, wideKeys, modest, calm, conditions, laid).
  DERIVED. THE GIVEN ROWS OF THIS SEAT. 3 by the template 'for every input the law returns true; each argument reads behind the call as it read before'; 0 by the template 'total and deterministic' (their statements: YtlbhpbaeokgmaaaTotals.lean).
  GIVEN WITH THE SEED: the statements are not yours to turn. If you find one false, say at which input.
  Laid BY PROGRAM, IN A SANDBOX (cutbox-rows.mjs): the forced cells as the released guide's own fill.sh prints them over the translation 048794c848219426… (all of the seat's roots in one cut). By AI agents, Wed Nov 11 2026. No macro, syntax, notation, axiom, sorry.
-/
import Derived.Test.YtlbhpbaeokgmaaaChecked
import GoSem.Claim
import GoSem.ClaimJoined
import GoSem.ClaimMapViews
import Derived.JoinedTies
import Derived.KernelRfl
namespace Go.Proofs.Ytlbhpbaeokgmaaa
/- THE CELL 'sum', in the pinned program and in every row, IS THE sha256 OF THE DUMP (.gsa) THAT YtlbhpbaeokgmaaaProg.lean LOADS. Nothing in Lean hashes anything: it is a label: what it is worth is what the hold of that sum in a sandbox is worth. -/
noncomputable def Try.pinned : Pinned := { name := "ytlbhpbaeokgmaaa", sum := "048794c8482194263a21162992db8975cc2b6dc77651afbbe4e84eabcb5e8d30", checked := Try.checked }
namespace Rows
def none {H : Type} : Left H := { results := [], args := [] }

/-- 'laws.FnSumParts': WHATEVER THE INPUT: true; the input reads as it did. -/
def fnSumPartsSpec : ChangeSpec := { name := "fnSumParts", fn := fun _ => fun
  | [d] => { results := [.lit (.bool true)], args := [d] }
  | _ => none }
def fnSumPartsRow : OpenClaim := { program := "ytlbhpbaeokgmaaa", sum := "048794c8482194263a21162992db8975cc2b6dc77651afbbe4e84eabcb5e8d30", func := "loop.example/g01362/laws.FnSumParts", spec := "fnSumParts", unfollowed := true, recurses := true, plainKeys := false, apart := false }
def FnSumPartsSaid : Prop := fnSumPartsRow.holds Try.pinned (OpenSpec.ofChange fnSumPartsSpec)

/-- ITS FALSE NEIGHBOUR: 'it returns false'. Refute it at one input. -/
def fnSumPartsWrong : ChangeSpec := { name := "fnSumParts", fn := fun _ => fun
  | [d] => { results := [.lit (.bool false)], args := [d] }
  | _ => none }
def FnSumPartsWrongFalsely : Prop := fnSumPartsRow.holds Try.pinned (OpenSpec.ofChange fnSumPartsWrong)

/-- 'laws.FnExactIsColouring': WHATEVER THE INPUT: true; the input reads as it did. -/
def fnExactIsColouringSpec : ChangeSpec := { name := "fnExactIsColouring", fn := fun _ => fun
  | [d] => { results := [.lit (.bool true)], args := [d] }
  | _ => none }
def fnExactIsColouringRow : OpenClaim := { program := "ytlbhpbaeokgmaaa", sum := "048794c8482194263a21162992db8975cc2b6dc77651afbbe4e84eabcb5e8d30", func := "loop.example/g01362/laws.FnExactIsColouring", spec := "fnExactIsColouring", plainKeys := false, apart := false }
def FnExactIsColouringSaid : Prop := fnExactIsColouringRow.holds Try.pinned (OpenSpec.ofChange fnExactIsColouringSpec)

/-- ITS FALSE NEIGHBOUR: 'it returns false'. Refute it at one input. -/
def fnExactIsColouringWrong : ChangeSpec := { name := "fnExactIsColouring", fn := fun _ => fun
  | [d] => { results := [.lit (.bool false)], args := [d] }
  | _ => none }
def FnExactIsColouringWrongFalsely : Prop := fnExactIsColouringRow.holds Try.pinned (OpenSpec.ofChange fnExactIsColouringWrong)

/-- 'laws.FnExactNeighbourBound': WHATEVER THE INPUT: true; the input reads as it did. -/
def fnExactNeighbourBoundSpec : ChangeSpec := { name := "fnExactNeighbourBound", fn := fun _ => fun
  | [d] => { results := [.lit (.bool true)], args := [d] }
  | _ => none }
def fnExactNeighbourBoundRow : OpenClaim := { program := "ytlbhpbaeokgmaaa", sum := "048794c8482194263a21162992db8975cc2b6dc77651afbbe4e84eabcb5e8d30", func := "loop.example/g01362/laws.FnExactNeighbourBound", spec := "fnExactNeighbourBound", unfollowed := true, recurses := true, plainKeys := false, apart := false }
def FnExactNeighbourBoundSaid : Prop := fnExactNeighbourBoundRow.holds Try.pinned (OpenSpec.ofChange fnExactNeighbourBoundSpec)

/-- ITS FALSE NEIGHBOUR: 'it returns false'. Refute it at one input. -/
def fnExactNeighbourBoundWrong : ChangeSpec := { name := "fnExactNeighbourBound", fn := fun _ => fun
  | [d] => { results := [.lit (.bool false)], args := [d] }
  | _ => none }
def FnExactNeighbourBoundWrongFalsely : Prop := fnExactNeighbourBoundRow.holds Try.pinned (OpenSpec.ofChange fnExactNeighbourBoundWrong)

/- THE SECOND FORM. 'bulk': how many values and letters a reading holds, each counted each time it is reached (what is shared counts as often as it is met; a slice's spare places count too). A statement '..UptoSaid' is the law's where the arguments, and the package variables that the reading takes, are together of bulk at most 1048576: NARROWER than '..Said'. Prove '..Said' where nothing that the law and all that it calls make is longer than what came in: it says more and counts as full. Else prove '..UptoSaid'. A law counts once. -/
mutual
def uptoBulk {H : Type} : DataW H → Nat
  | .lit (.string bytes) => bytes.length + 1
  | .lit _ => 1
  | .nil => 1
  | .ptr d => uptoBulk d + 1
  | .slice elems spare => uptoBulkAll elems + uptoBulkAll spare + 1
  | .agg parts => uptoBulkAll parts + 1
  | .iface _ d => uptoBulk d + 1
  | .map entries => uptoBulkEntries entries + 1
  | .held _ => 1
def uptoBulkAll {H : Type} : List (DataW H) → Nat
  | [] => 0
  | d :: r => uptoBulk d + uptoBulkAll r
def uptoBulkEntries {H : Type} : List (Lit × DataW H) → Nat
  | [] => 0
  | x :: r => uptoBulkEntry x + uptoBulkEntries r
def uptoBulkEntry {H : Type} : Lit × DataW H → Nat
  | (.string bytes, d) => bytes.length + uptoBulk d + 1
  | (_, d) => uptoBulk d + 1
 end
def uptoSmall : (H : Type) → List (DataW H) → Bool := fun _ ds => decide (uptoBulkAll ds ≤ 1048576)
def OpenSpec.upto (s : _root_.Go.ChangeSpec) : _root_.Go.OpenSpec := { _root_.Go.OpenSpec.ofChange s with cond := some uptoSmall }

/-- 'laws.FnSumParts', WHERE WHAT IT READS IS OF BULK AT MOST 1048576: true; the input reads as it did. -/
def fnSumPartsUptoRow : OpenClaim := { program := "ytlbhpbaeokgmaaa", sum := "048794c8482194263a21162992db8975cc2b6dc77651afbbe4e84eabcb5e8d30", func := "loop.example/g01362/laws.FnSumParts", spec := "fnSumParts", unfollowed := true, recurses := true, plainKeys := false, apart := false, narrowed := true }
def FnSumPartsUptoSaid : Prop := fnSumPartsUptoRow.holds Try.pinned (OpenSpec.upto fnSumPartsSpec)

/-- 'laws.FnExactIsColouring', WHERE WHAT IT READS IS OF BULK AT MOST 1048576: true; the input reads as it did. -/
def fnExactIsColouringUptoRow : OpenClaim := { program := "ytlbhpbaeokgmaaa", sum := "048794c8482194263a21162992db8975cc2b6dc77651afbbe4e84eabcb5e8d30", func := "loop.example/g01362/laws.FnExactIsColouring", spec := "fnExactIsColouring", plainKeys := false, apart := false, narrowed := true }
def FnExactIsColouringUptoSaid : Prop := fnExactIsColouringUptoRow.holds Try.pinned (OpenSpec.upto fnExactIsColouringSpec)

/-- 'laws.FnExactNeighbourBound', WHERE WHAT IT READS IS OF BULK AT MOST 1048576: true; the input reads as it did. -/
def fnExactNeighbourBoundUptoRow : OpenClaim := { program := "ytlbhpbaeokgmaaa", sum := "048794c8482194263a21162992db8975cc2b6dc77651afbbe4e84eabcb5e8d30", func := "loop.example/g01362/laws.FnExactNeighbourBound", spec := "fnExactNeighbourBound", unfollowed := true, recurses := true, plainKeys := false, apart := false, narrowed := true }
def FnExactNeighbourBoundUptoSaid : Prop := fnExactNeighbourBoundUptoRow.holds Try.pinned (OpenSpec.upto fnExactNeighbourBoundSpec)

end Rows
end Go.Proofs.Ytlbhpbaeokgmaaa
