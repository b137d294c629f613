/-
  DERIVED. GIVEN WITH THE SEED: THE CARDS: each row of YtgngbdacejghcaaDoorRows.lean that lists a variable, with what it lists TIED to the program's text (the seventh form; the later family's looks); each row that meets fmt, with fmt's text TOLD by the authors' own Lean function (tested against real Go, not proved from fmt's source: count such statements apart). THE CARD IS WHAT COUNTS. Prove the row's statement (the work); the ties are given (YtgngbdacejghcaaDoorTie.lean); close each card by the builder's one call (the guide's Derived/Test/ToyasCard.lean, 'card_holds'). Laid BY PROGRAM, IN A SANDBOX (cutbox-door.mjs). By AI agents, Wed Nov 11 2026. No macro, syntax, notation, axiom, sorry.
-/
import Derived.Test.YtgngbdacejghcaaDoorRows
import GoSem.ClaimSeven
namespace Go.Proofs.YtgngbdacejghcaaDoor
namespace Rows

/-- THE TIED CARD OF 'laws.FnExactChainText'. -/
def fnExactChainTextCard : Claim7 := { stood := { row := fnExactChainTextRow, standIns := [], harness := (true, "4dd07d9378b5849b743967e91cb11eec9d8f46762c551014cbd10579683d114b"), looks := true }, kinds := [], alts := [], laidByText := true, laidKinds := [.data, .data, .data], laidTests := true, laidLooks := .later }
def FnExactChainTextCardSaid : Prop := Claim7.holds Tryd.pinned (.plain (OpenSpec.ofChange fnExactChainTextSpec)) fnExactChainTextCard

/-- THE TIED CARD OF 'laws.FnExactMovesText'. -/
def fnExactMovesTextCard : Claim7 := { stood := { row := fnExactMovesTextRow, standIns := [], harness := (true, "4dd07d9378b5849b743967e91cb11eec9d8f46762c551014cbd10579683d114b"), looks := true }, kinds := [], alts := [], laidByText := true, laidKinds := [.data, .data, .data], laidTests := true, laidLooks := .later }
def FnExactMovesTextCardSaid : Prop := Claim7.holds Tryd.pinned (.plain (OpenSpec.ofChange fnExactMovesTextSpec)) fnExactMovesTextCard

/-- THE TIED CARD OF 'laws.FnExactReadRule'. -/
def fnExactReadRuleCard : Claim7 := { stood := { row := fnExactReadRuleRow, standIns := [], harness := (true, "4dd07d9378b5849b743967e91cb11eec9d8f46762c551014cbd10579683d114b"), looks := true }, kinds := [], alts := [], laidByText := true, laidKinds := [.data, .data, .data, .data, .sentinel, .sentinel, .pinned], laidTests := true, laidLooks := .later }
def FnExactReadRuleCardSaid : Prop := Claim7.holds Tryd.pinned (.plain (OpenSpec.ofChange fnExactReadRuleSpec)) fnExactReadRuleCard

/-- THE TIED CARD OF 'laws.FnExactReadMoves'. -/
def fnExactReadMovesCard : Claim7 := { stood := { row := fnExactReadMovesRow, standIns := [], harness := (true, "4dd07d9378b5849b743967e91cb11eec9d8f46762c551014cbd10579683d114b"), looks := true }, kinds := [], alts := [], laidByText := true, laidKinds := [.data, .data, .data, .data, .sentinel, .sentinel, .pinned], laidTests := true, laidLooks := .later }
def FnExactReadMovesCardSaid : Prop := Claim7.holds Tryd.pinned (.plain (OpenSpec.ofChange fnExactReadMovesSpec)) fnExactReadMovesCard

/-- THE TIED CARD OF 'laws.FnExactReadChain'. -/
def fnExactReadChainCard : Claim7 := { stood := { row := fnExactReadChainRow, standIns := [], harness := (true, "4dd07d9378b5849b743967e91cb11eec9d8f46762c551014cbd10579683d114b"), looks := true }, kinds := [], alts := [], laidByText := true, laidKinds := [.data, .data, .data, .data, .sentinel, .sentinel, .pinned], laidTests := true, laidLooks := .later }
def FnExactReadChainCardSaid : Prop := Claim7.holds Tryd.pinned (.plain (OpenSpec.ofChange fnExactReadChainSpec)) fnExactReadChainCard

/-- THE TIED CARD OF 'laws.FnChainTexts'. -/
def fnChainTextsCard : Claim7 := { stood := { row := fnChainTextsRow, standIns := [], harness := (true, "4dd07d9378b5849b743967e91cb11eec9d8f46762c551014cbd10579683d114b"), looks := true }, kinds := [], alts := [], laidByText := true, laidKinds := [.data, .data, .data, .data, .sentinel, .sentinel, .pinned], laidTests := true, laidLooks := .later }
def FnChainTextsCardSaid : Prop := Claim7.holds Tryd.pinned (.plain (OpenSpec.ofChange fnChainTextsSpec)) fnChainTextsCard

/-- THE SECOND FORM's CARD OF 'laws.FnExactChainText'. -/
def fnExactChainTextUptoCard : Claim7 := { stood := { row := fnExactChainTextUptoRow, standIns := [], harness := (true, "4dd07d9378b5849b743967e91cb11eec9d8f46762c551014cbd10579683d114b"), looks := true }, kinds := [], alts := [], laidByText := true, laidKinds := [.data, .data, .data], laidTests := true, laidLooks := .later }
def FnExactChainTextUptoCardSaid : Prop := Claim7.holds Tryd.pinned (.plain (OpenSpec.upto fnExactChainTextSpec)) fnExactChainTextUptoCard

/-- THE SECOND FORM's CARD OF 'laws.FnExactMovesText'. -/
def fnExactMovesTextUptoCard : Claim7 := { stood := { row := fnExactMovesTextUptoRow, standIns := [], harness := (true, "4dd07d9378b5849b743967e91cb11eec9d8f46762c551014cbd10579683d114b"), looks := true }, kinds := [], alts := [], laidByText := true, laidKinds := [.data, .data, .data], laidTests := true, laidLooks := .later }
def FnExactMovesTextUptoCardSaid : Prop := Claim7.holds Tryd.pinned (.plain (OpenSpec.upto fnExactMovesTextSpec)) fnExactMovesTextUptoCard

/-- THE SECOND FORM's CARD OF 'laws.FnExactReadRule'. -/
def fnExactReadRuleUptoCard : Claim7 := { stood := { row := fnExactReadRuleUptoRow, standIns := [], harness := (true, "4dd07d9378b5849b743967e91cb11eec9d8f46762c551014cbd10579683d114b"), looks := true }, kinds := [], alts := [], laidByText := true, laidKinds := [.data, .data, .data, .data, .sentinel, .sentinel, .pinned], laidTests := true, laidLooks := .later }
def FnExactReadRuleUptoCardSaid : Prop := Claim7.holds Tryd.pinned (.plain (OpenSpec.upto fnExactReadRuleSpec)) fnExactReadRuleUptoCard

/-- THE SECOND FORM's CARD OF 'laws.FnExactReadMoves'. -/
def fnExactReadMovesUptoCard : Claim7 := { stood := { row := fnExactReadMovesUptoRow, standIns := [], harness := (true, "4dd07d9378b5849b743967e91cb11eec9d8f46762c551014cbd10579683d114b"), looks := true }, kinds := [], alts := [], laidByText := true, laidKinds := [.data, .data, .data, .data, .sentinel, .sentinel, .pinned], laidTests := true, laidLooks := .later }
def FnExactReadMovesUptoCardSaid : Prop := Claim7.holds Tryd.pinned (.plain (OpenSpec.upto fnExactReadMovesSpec)) fnExactReadMovesUptoCard

/-- THE SECOND FORM's CARD OF 'laws.FnExactReadChain'. -/
def fnExactReadChainUptoCard : Claim7 := { stood := { row := fnExactReadChainUptoRow, standIns := [], harness := (true, "4dd07d9378b5849b743967e91cb11eec9d8f46762c551014cbd10579683d114b"), looks := true }, kinds := [], alts := [], laidByText := true, laidKinds := [.data, .data, .data, .data, .sentinel, .sentinel, .pinned], laidTests := true, laidLooks := .later }
def FnExactReadChainUptoCardSaid : Prop := Claim7.holds Tryd.pinned (.plain (OpenSpec.upto fnExactReadChainSpec)) fnExactReadChainUptoCard

/-- THE SECOND FORM's CARD OF 'laws.FnChainTexts'. -/
def fnChainTextsUptoCard : Claim7 := { stood := { row := fnChainTextsUptoRow, standIns := [], harness := (true, "4dd07d9378b5849b743967e91cb11eec9d8f46762c551014cbd10579683d114b"), looks := true }, kinds := [], alts := [], laidByText := true, laidKinds := [.data, .data, .data, .data, .sentinel, .sentinel, .pinned], laidTests := true, laidLooks := .later }
def FnChainTextsUptoCardSaid : Prop := Claim7.holds Tryd.pinned (.plain (OpenSpec.upto fnChainTextsSpec)) fnChainTextsUptoCard
end Rows
end Go.Proofs.YtgngbdacejghcaaDoor
