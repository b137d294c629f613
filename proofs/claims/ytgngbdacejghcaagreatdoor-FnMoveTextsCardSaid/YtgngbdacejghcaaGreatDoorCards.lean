/-
  DERIVED. GIVEN WITH THE SEED: THE CARDS: each row of YtgngbdacejghcaaGreatDoorRows.lean that lists a variable, with what it lists TIED to the program's text (the seventh form; the later family's looks); each row that meets fmt, with fmt's text TOLD by the authors' own Lean function (tested against real Go, not proved from fmt's source: count such statements apart). THE CARD IS WHAT COUNTS. Prove the row's statement (the work); the ties are given (YtgngbdacejghcaaGreatDoorTie.lean); close each card by the builder's one call (the guide's Derived/Test/ToyasCard.lean, 'card_holds'). Laid BY PROGRAM, IN A SANDBOX (cutbox-door.mjs). By AI agents, Wed Nov 11 2026. No macro, syntax, notation, axiom, sorry.
-/
import Derived.Test.YtgngbdacejghcaaGreatDoorRows
import GoSem.ClaimSeven
namespace Go.Proofs.YtgngbdacejghcaaGreatDoor
namespace Rows

/-- THE TIED CARD OF 'laws.FnRules'. -/
def fnRulesCard : Claim7 := { stood := { row := fnRulesRow, standIns := [], harness := (true, "847ddbccc0e4c2ad6f30af028c4387c959973d2dfd3e4360b00a2afb5f0014b8"), looks := true }, kinds := [], alts := [], laidByText := true, laidKinds := [.data, .data, .data, .data, .sentinel, .sentinel, .pinned], laidTests := true, laidLooks := .later }
def FnRulesCardSaid : Prop := Claim7.holds Tryz.pinned (.plain (OpenSpec.ofChange fnRulesSpec)) fnRulesCard

/-- THE TIED CARD OF 'laws.FnMoveTexts'. -/
def fnMoveTextsCard : Claim7 := { stood := { row := fnMoveTextsRow, standIns := [], harness := (true, "847ddbccc0e4c2ad6f30af028c4387c959973d2dfd3e4360b00a2afb5f0014b8"), looks := true }, kinds := [], alts := [], laidByText := true, laidKinds := [.data, .data, .data, .data, .sentinel, .sentinel, .pinned], laidTests := true, laidLooks := .later }
def FnMoveTextsCardSaid : Prop := Claim7.holds Tryz.pinned (.plain (OpenSpec.ofChange fnMoveTextsSpec)) fnMoveTextsCard

/-- THE SECOND FORM's CARD OF 'laws.FnRules'. -/
def fnRulesUptoCard : Claim7 := { stood := { row := fnRulesUptoRow, standIns := [], harness := (true, "847ddbccc0e4c2ad6f30af028c4387c959973d2dfd3e4360b00a2afb5f0014b8"), looks := true }, kinds := [], alts := [], laidByText := true, laidKinds := [.data, .data, .data, .data, .sentinel, .sentinel, .pinned], laidTests := true, laidLooks := .later }
def FnRulesUptoCardSaid : Prop := Claim7.holds Tryz.pinned (.plain (OpenSpec.upto fnRulesSpec)) fnRulesUptoCard

/-- THE SECOND FORM's CARD OF 'laws.FnMoveTexts'. -/
def fnMoveTextsUptoCard : Claim7 := { stood := { row := fnMoveTextsUptoRow, standIns := [], harness := (true, "847ddbccc0e4c2ad6f30af028c4387c959973d2dfd3e4360b00a2afb5f0014b8"), looks := true }, kinds := [], alts := [], laidByText := true, laidKinds := [.data, .data, .data, .data, .sentinel, .sentinel, .pinned], laidTests := true, laidLooks := .later }
def FnMoveTextsUptoCardSaid : Prop := Claim7.holds Tryz.pinned (.plain (OpenSpec.upto fnMoveTextsSpec)) fnMoveTextsUptoCard
end Rows
end Go.Proofs.YtgngbdacejghcaaGreatDoor
