/-
  DERIVED. GIVEN WITH THE SEED: THE CARDS: each row of YtmecbbanklffgaaDoorRows.lean that lists a variable, with what it lists TIED to the program's text (the seventh form; the later family's looks); each row that meets fmt, with fmt's text TOLD by the authors' own Lean function (tested against real Go, not proved from fmt's source: count such statements apart). THE CARD IS WHAT COUNTS. Prove the row's statement (the work); the ties are given (YtmecbbanklffgaaDoorTie.lean); close each card by the builder's one call (the guide's Derived/Test/ToyasCard.lean, 'card_holds'). Laid BY PROGRAM, IN A SANDBOX (cutbox-door.mjs). By AI agents, Wed Nov 11 2026. No macro, syntax, notation, axiom, sorry.
-/
import Derived.Test.YtmecbbanklffgaaDoorRows
import GoSem.ClaimSeven
namespace Go.Proofs.YtmecbbanklffgaaDoor
namespace Rows

/-- THE TIED CARD OF 'laws.FnExactParseColouring'. -/
def fnExactParseColouringCard : Claim7 := { stood := { row := fnExactParseColouringRow, standIns := [], harness := (true, "46d40ce51a7df5801442e14421fe8dfc3a56b2adf9746c8b2fc3006ffbd45427"), looks := true }, kinds := [], alts := [], laidByText := true, laidKinds := [.data, .data, .data, .data, .sentinel, .sentinel, .pinned], laidTests := true, laidLooks := .later }
def FnExactParseColouringCardSaid : Prop := Claim7.holds Tryd.pinned (.plain (OpenSpec.ofChange fnExactParseColouringSpec)) fnExactParseColouringCard

/-- THE SECOND FORM's CARD OF 'laws.FnExactParseColouring'. -/
def fnExactParseColouringUptoCard : Claim7 := { stood := { row := fnExactParseColouringUptoRow, standIns := [], harness := (true, "46d40ce51a7df5801442e14421fe8dfc3a56b2adf9746c8b2fc3006ffbd45427"), looks := true }, kinds := [], alts := [], laidByText := true, laidKinds := [.data, .data, .data, .data, .sentinel, .sentinel, .pinned], laidTests := true, laidLooks := .later }
def FnExactParseColouringUptoCardSaid : Prop := Claim7.holds Tryd.pinned (.plain (OpenSpec.upto fnExactParseColouringSpec)) fnExactParseColouringUptoCard
end Rows
end Go.Proofs.YtmecbbanklffgaaDoor
