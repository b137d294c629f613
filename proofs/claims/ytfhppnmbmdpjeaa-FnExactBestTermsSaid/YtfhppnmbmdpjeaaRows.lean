/-
  No cell of these rows narrows 'for every input' (looked for: loops, veiled, ifaces, maps, wideKeys, modest, calm, conditions, laid).
  DERIVED. THE GIVEN ROWS OF THIS SEAT. 12 by the template 'for every input the law returns true; each argument reads behind the call as it read before'; 0 by the template 'total and deterministic' (their statements: YtfhppnmbmdpjeaaTotals.lean).
  GIVEN WITH THE SEED: the statements are not yours to turn. If you find one false, say at which input.
  Laid BY PROGRAM, IN A SANDBOX (cutbox-rows.mjs): the forced cells as the released guide's own fill.sh prints them over the translation eee540efe1914519… (all of the seat's roots in one cut). By AI agents, Wed Nov 11 2026. No macro, syntax, notation, axiom, sorry.
-/
import Derived.Test.YtfhppnmbmdpjeaaChecked
import GoSem.Claim
import GoSem.ClaimJoined
import GoSem.ClaimMapViews
import Derived.JoinedTies
import Derived.KernelRfl
namespace Go.Proofs.Ytfhppnmbmdpjeaa
/- THE CELL 'sum', in the pinned program and in every row, IS THE sha256 OF THE DUMP (.gsa) THAT YtfhppnmbmdpjeaaProg.lean LOADS. Nothing in Lean hashes anything: it is a label: what it is worth is what the hold of that sum in a sandbox is worth. -/
noncomputable def Try.pinned : Pinned := { name := "ytfhppnmbmdpjeaa", sum := "eee540efe191451938ac2a3dc2642b7bfdbfa017811d50a543b4322aa4273eb6", checked := Try.checked }
namespace Rows
def none {H : Type} : Left H := { results := [], args := [] }

/-- 'laws.FnExactReadSlide': WHATEVER THE INPUT: true; the input reads as it did. -/
def fnExactReadSlideSpec : ChangeSpec := { name := "fnExactReadSlide", fn := fun _ => fun
  | [d1, d2, d3] => { results := [.lit (.bool true)], args := [d1, d2, d3] }
  | _ => none }
def fnExactReadSlideRow : OpenClaim := { program := "ytfhppnmbmdpjeaa", sum := "eee540efe191451938ac2a3dc2642b7bfdbfa017811d50a543b4322aa4273eb6", func := "loop.example/g00951/laws.FnExactReadSlide", spec := "fnExactReadSlide", unfollowed := true, recurses := true, apart := false }
def FnExactReadSlideSaid : Prop := fnExactReadSlideRow.holds Try.pinned (OpenSpec.ofChange fnExactReadSlideSpec)

/-- ITS FALSE NEIGHBOUR: 'it returns false'. Refute it at one input. -/
def fnExactReadSlideWrong : ChangeSpec := { name := "fnExactReadSlide", fn := fun _ => fun
  | [d1, d2, d3] => { results := [.lit (.bool false)], args := [d1, d2, d3] }
  | _ => none }
def FnExactReadSlideWrongFalsely : Prop := fnExactReadSlideRow.holds Try.pinned (OpenSpec.ofChange fnExactReadSlideWrong)

/-- 'laws.FnExactTransferFigure': WHATEVER THE INPUT: true; the input reads as it did. -/
def fnExactTransferFigureSpec : ChangeSpec := { name := "fnExactTransferFigure", fn := fun _ => fun
  | [d1, d2, d3, d4] => { results := [.lit (.bool true)], args := [d1, d2, d3, d4] }
  | _ => none }
def fnExactTransferFigureRow : OpenClaim := { program := "ytfhppnmbmdpjeaa", sum := "eee540efe191451938ac2a3dc2642b7bfdbfa017811d50a543b4322aa4273eb6", func := "loop.example/g00951/laws.FnExactTransferFigure", spec := "fnExactTransferFigure", unfollowed := true, recurses := true, apart := false }
def FnExactTransferFigureSaid : Prop := fnExactTransferFigureRow.holds Try.pinned (OpenSpec.ofChange fnExactTransferFigureSpec)

/-- ITS FALSE NEIGHBOUR: 'it returns false'. Refute it at one input. -/
def fnExactTransferFigureWrong : ChangeSpec := { name := "fnExactTransferFigure", fn := fun _ => fun
  | [d1, d2, d3, d4] => { results := [.lit (.bool false)], args := [d1, d2, d3, d4] }
  | _ => none }
def FnExactTransferFigureWrongFalsely : Prop := fnExactTransferFigureRow.holds Try.pinned (OpenSpec.ofChange fnExactTransferFigureWrong)

/-- 'laws.FnExactCountPlan': WHATEVER THE INPUT: true; the input reads as it did. -/
def fnExactCountPlanSpec : ChangeSpec := { name := "fnExactCountPlan", fn := fun _ => fun
  | [d1, d2] => { results := [.lit (.bool true)], args := [d1, d2] }
  | _ => none }
def fnExactCountPlanRow : OpenClaim := { program := "ytfhppnmbmdpjeaa", sum := "eee540efe191451938ac2a3dc2642b7bfdbfa017811d50a543b4322aa4273eb6", func := "loop.example/g00951/laws.FnExactCountPlan", spec := "fnExactCountPlan", unfollowed := true, recurses := true, apart := false }
def FnExactCountPlanSaid : Prop := fnExactCountPlanRow.holds Try.pinned (OpenSpec.ofChange fnExactCountPlanSpec)

/-- ITS FALSE NEIGHBOUR: 'it returns false'. Refute it at one input. -/
def fnExactCountPlanWrong : ChangeSpec := { name := "fnExactCountPlan", fn := fun _ => fun
  | [d1, d2] => { results := [.lit (.bool false)], args := [d1, d2] }
  | _ => none }
def FnExactCountPlanWrongFalsely : Prop := fnExactCountPlanRow.holds Try.pinned (OpenSpec.ofChange fnExactCountPlanWrong)

/-- 'laws.FnExactReverseMoves': WHATEVER THE INPUT: true; the input reads as it did. -/
def fnExactReverseMovesSpec : ChangeSpec := { name := "fnExactReverseMoves", fn := fun _ => fun
  | [d1, d2] => { results := [.lit (.bool true)], args := [d1, d2] }
  | _ => none }
def fnExactReverseMovesRow : OpenClaim := { program := "ytfhppnmbmdpjeaa", sum := "eee540efe191451938ac2a3dc2642b7bfdbfa017811d50a543b4322aa4273eb6", func := "loop.example/g00951/laws.FnExactReverseMoves", spec := "fnExactReverseMoves", unfollowed := true, recurses := true, apart := false }
def FnExactReverseMovesSaid : Prop := fnExactReverseMovesRow.holds Try.pinned (OpenSpec.ofChange fnExactReverseMovesSpec)

/-- ITS FALSE NEIGHBOUR: 'it returns false'. Refute it at one input. -/
def fnExactReverseMovesWrong : ChangeSpec := { name := "fnExactReverseMoves", fn := fun _ => fun
  | [d1, d2] => { results := [.lit (.bool false)], args := [d1, d2] }
  | _ => none }
def FnExactReverseMovesWrongFalsely : Prop := fnExactReverseMovesRow.holds Try.pinned (OpenSpec.ofChange fnExactReverseMovesWrong)

/-- 'laws.FnExactTransferTable': WHATEVER THE INPUT: true; the input reads as it did. -/
def fnExactTransferTableSpec : ChangeSpec := { name := "fnExactTransferTable", fn := fun _ => fun
  | [d1, d2, d3, d4] => { results := [.lit (.bool true)], args := [d1, d2, d3, d4] }
  | _ => none }
def fnExactTransferTableRow : OpenClaim := { program := "ytfhppnmbmdpjeaa", sum := "eee540efe191451938ac2a3dc2642b7bfdbfa017811d50a543b4322aa4273eb6", func := "loop.example/g00951/laws.FnExactTransferTable", spec := "fnExactTransferTable", unfollowed := true, recurses := true, apart := false }
def FnExactTransferTableSaid : Prop := fnExactTransferTableRow.holds Try.pinned (OpenSpec.ofChange fnExactTransferTableSpec)

/-- ITS FALSE NEIGHBOUR: 'it returns false'. Refute it at one input. -/
def fnExactTransferTableWrong : ChangeSpec := { name := "fnExactTransferTable", fn := fun _ => fun
  | [d1, d2, d3, d4] => { results := [.lit (.bool false)], args := [d1, d2, d3, d4] }
  | _ => none }
def FnExactTransferTableWrongFalsely : Prop := fnExactTransferTableRow.holds Try.pinned (OpenSpec.ofChange fnExactTransferTableWrong)

/-- 'laws.FnExactIsPlanFor': WHATEVER THE INPUT: true; the input reads as it did. -/
def fnExactIsPlanForSpec : ChangeSpec := { name := "fnExactIsPlanFor", fn := fun _ => fun
  | [d1, d2, d3] => { results := [.lit (.bool true)], args := [d1, d2, d3] }
  | _ => none }
def fnExactIsPlanForRow : OpenClaim := { program := "ytfhppnmbmdpjeaa", sum := "eee540efe191451938ac2a3dc2642b7bfdbfa017811d50a543b4322aa4273eb6", func := "loop.example/g00951/laws.FnExactIsPlanFor", spec := "fnExactIsPlanFor", unfollowed := true, recurses := true, apart := false }
def FnExactIsPlanForSaid : Prop := fnExactIsPlanForRow.holds Try.pinned (OpenSpec.ofChange fnExactIsPlanForSpec)

/-- ITS FALSE NEIGHBOUR: 'it returns false'. Refute it at one input. -/
def fnExactIsPlanForWrong : ChangeSpec := { name := "fnExactIsPlanFor", fn := fun _ => fun
  | [d1, d2, d3] => { results := [.lit (.bool false)], args := [d1, d2, d3] }
  | _ => none }
def FnExactIsPlanForWrongFalsely : Prop := fnExactIsPlanForRow.holds Try.pinned (OpenSpec.ofChange fnExactIsPlanForWrong)

/-- 'laws.FnExactPlanFor': WHATEVER THE INPUT: true; the input reads as it did. -/
def fnExactPlanForSpec : ChangeSpec := { name := "fnExactPlanFor", fn := fun _ => fun
  | [d1, d2] => { results := [.lit (.bool true)], args := [d1, d2] }
  | _ => none }
def fnExactPlanForRow : OpenClaim := { program := "ytfhppnmbmdpjeaa", sum := "eee540efe191451938ac2a3dc2642b7bfdbfa017811d50a543b4322aa4273eb6", func := "loop.example/g00951/laws.FnExactPlanFor", spec := "fnExactPlanFor", unfollowed := true, recurses := true, apart := false }
def FnExactPlanForSaid : Prop := fnExactPlanForRow.holds Try.pinned (OpenSpec.ofChange fnExactPlanForSpec)

/-- ITS FALSE NEIGHBOUR: 'it returns false'. Refute it at one input. -/
def fnExactPlanForWrong : ChangeSpec := { name := "fnExactPlanFor", fn := fun _ => fun
  | [d1, d2] => { results := [.lit (.bool false)], args := [d1, d2] }
  | _ => none }
def FnExactPlanForWrongFalsely : Prop := fnExactPlanForRow.holds Try.pinned (OpenSpec.ofChange fnExactPlanForWrong)

/-- 'laws.FnExactPlanUnits': WHATEVER THE INPUT: true; the input reads as it did. -/
def fnExactPlanUnitsSpec : ChangeSpec := { name := "fnExactPlanUnits", fn := fun _ => fun
  | [d1, d2, d3] => { results := [.lit (.bool true)], args := [d1, d2, d3] }
  | _ => none }
def fnExactPlanUnitsRow : OpenClaim := { program := "ytfhppnmbmdpjeaa", sum := "eee540efe191451938ac2a3dc2642b7bfdbfa017811d50a543b4322aa4273eb6", func := "loop.example/g00951/laws.FnExactPlanUnits", spec := "fnExactPlanUnits", unfollowed := true, recurses := true, apart := false }
def FnExactPlanUnitsSaid : Prop := fnExactPlanUnitsRow.holds Try.pinned (OpenSpec.ofChange fnExactPlanUnitsSpec)

/-- ITS FALSE NEIGHBOUR: 'it returns false'. Refute it at one input. -/
def fnExactPlanUnitsWrong : ChangeSpec := { name := "fnExactPlanUnits", fn := fun _ => fun
  | [d1, d2, d3] => { results := [.lit (.bool false)], args := [d1, d2, d3] }
  | _ => none }
def FnExactPlanUnitsWrongFalsely : Prop := fnExactPlanUnitsRow.holds Try.pinned (OpenSpec.ofChange fnExactPlanUnitsWrong)

/-- 'laws.FnExactBestTerms': WHATEVER THE INPUT: true; the input reads as it did. -/
def fnExactBestTermsSpec : ChangeSpec := { name := "fnExactBestTerms", fn := fun _ => fun
  | [d1, d2] => { results := [.lit (.bool true)], args := [d1, d2] }
  | _ => none }
def fnExactBestTermsRow : OpenClaim := { program := "ytfhppnmbmdpjeaa", sum := "eee540efe191451938ac2a3dc2642b7bfdbfa017811d50a543b4322aa4273eb6", func := "loop.example/g00951/laws.FnExactBestTerms", spec := "fnExactBestTerms", unfollowed := true, recurses := true, apart := false }
def FnExactBestTermsSaid : Prop := fnExactBestTermsRow.holds Try.pinned (OpenSpec.ofChange fnExactBestTermsSpec)

/-- ITS FALSE NEIGHBOUR: 'it returns false'. Refute it at one input. -/
def fnExactBestTermsWrong : ChangeSpec := { name := "fnExactBestTerms", fn := fun _ => fun
  | [d1, d2] => { results := [.lit (.bool false)], args := [d1, d2] }
  | _ => none }
def FnExactBestTermsWrongFalsely : Prop := fnExactBestTermsRow.holds Try.pinned (OpenSpec.ofChange fnExactBestTermsWrong)

/-- 'laws.FnExactPlanTravel': WHATEVER THE INPUT: true; the input reads as it did. -/
def fnExactPlanTravelSpec : ChangeSpec := { name := "fnExactPlanTravel", fn := fun _ => fun
  | [d1, d2] => { results := [.lit (.bool true)], args := [d1, d2] }
  | _ => none }
def fnExactPlanTravelRow : OpenClaim := { program := "ytfhppnmbmdpjeaa", sum := "eee540efe191451938ac2a3dc2642b7bfdbfa017811d50a543b4322aa4273eb6", func := "loop.example/g00951/laws.FnExactPlanTravel", spec := "fnExactPlanTravel", unfollowed := true, recurses := true, apart := false }
def FnExactPlanTravelSaid : Prop := fnExactPlanTravelRow.holds Try.pinned (OpenSpec.ofChange fnExactPlanTravelSpec)

/-- ITS FALSE NEIGHBOUR: 'it returns false'. Refute it at one input. -/
def fnExactPlanTravelWrong : ChangeSpec := { name := "fnExactPlanTravel", fn := fun _ => fun
  | [d1, d2] => { results := [.lit (.bool false)], args := [d1, d2] }
  | _ => none }
def FnExactPlanTravelWrongFalsely : Prop := fnExactPlanTravelRow.holds Try.pinned (OpenSpec.ofChange fnExactPlanTravelWrong)

/-- 'laws.FnExactLengthNeeded': WHATEVER THE INPUT: true; the input reads as it did. -/
def fnExactLengthNeededSpec : ChangeSpec := { name := "fnExactLengthNeeded", fn := fun _ => fun
  | [d1, d2, d3, d4] => { results := [.lit (.bool true)], args := [d1, d2, d3, d4] }
  | _ => none }
def fnExactLengthNeededRow : OpenClaim := { program := "ytfhppnmbmdpjeaa", sum := "eee540efe191451938ac2a3dc2642b7bfdbfa017811d50a543b4322aa4273eb6", func := "loop.example/g00951/laws.FnExactLengthNeeded", spec := "fnExactLengthNeeded", unfollowed := true, recurses := true, apart := false }
def FnExactLengthNeededSaid : Prop := fnExactLengthNeededRow.holds Try.pinned (OpenSpec.ofChange fnExactLengthNeededSpec)

/-- ITS FALSE NEIGHBOUR: 'it returns false'. Refute it at one input. -/
def fnExactLengthNeededWrong : ChangeSpec := { name := "fnExactLengthNeeded", fn := fun _ => fun
  | [d1, d2, d3, d4] => { results := [.lit (.bool false)], args := [d1, d2, d3, d4] }
  | _ => none }
def FnExactLengthNeededWrongFalsely : Prop := fnExactLengthNeededRow.holds Try.pinned (OpenSpec.ofChange fnExactLengthNeededWrong)

/-- 'laws.FnExactResultOf': WHATEVER THE INPUT: true; the input reads as it did. -/
def fnExactResultOfSpec : ChangeSpec := { name := "fnExactResultOf", fn := fun _ => fun
  | [d1, d2] => { results := [.lit (.bool true)], args := [d1, d2] }
  | _ => none }
def fnExactResultOfRow : OpenClaim := { program := "ytfhppnmbmdpjeaa", sum := "eee540efe191451938ac2a3dc2642b7bfdbfa017811d50a543b4322aa4273eb6", func := "loop.example/g00951/laws.FnExactResultOf", spec := "fnExactResultOf", unfollowed := true, recurses := true, apart := false }
def FnExactResultOfSaid : Prop := fnExactResultOfRow.holds Try.pinned (OpenSpec.ofChange fnExactResultOfSpec)

/-- ITS FALSE NEIGHBOUR: 'it returns false'. Refute it at one input. -/
def fnExactResultOfWrong : ChangeSpec := { name := "fnExactResultOf", fn := fun _ => fun
  | [d1, d2] => { results := [.lit (.bool false)], args := [d1, d2] }
  | _ => none }
def FnExactResultOfWrongFalsely : Prop := fnExactResultOfRow.holds Try.pinned (OpenSpec.ofChange fnExactResultOfWrong)

/- THE SECOND FORM. 'bulk': how many values and letters a reading holds, each counted each time it is reached (what is shared counts as often as it is met; a slice's spare places count too). A statement '..UptoSaid' is the law's where the arguments, and the package variables that the reading takes, are together of bulk at most 1048576: NARROWER than '..Said'. Prove '..Said' where nothing that the law and all that it calls make is longer than what came in: it says more and counts as full. Else prove '..UptoSaid'. A law counts once. -/
mutual
def uptoBulk {H : Type} : DataW H → Nat
  | .lit (.string bytes) => bytes.length + 1
  | .lit _ => 1
  | .nil => 1
  | .ptr d => uptoBulk d + 1
  | .slice elems spare => uptoBulkAll elems + uptoBulkAll spare + 1
  | .agg parts => uptoBulkAll parts + 1
  | .iface _ d => uptoBulk d + 1
  | .map entries => uptoBulkEntries entries + 1
  | .held _ => 1
def uptoBulkAll {H : Type} : List (DataW H) → Nat
  | [] => 0
  | d :: r => uptoBulk d + uptoBulkAll r
def uptoBulkEntries {H : Type} : List (Lit × DataW H) → Nat
  | [] => 0
  | x :: r => uptoBulkEntry x + uptoBulkEntries r
def uptoBulkEntry {H : Type} : Lit × DataW H → Nat
  | (.string bytes, d) => bytes.length + uptoBulk d + 1
  | (_, d) => uptoBulk d + 1
 end
def uptoSmall : (H : Type) → List (DataW H) → Bool := fun _ ds => decide (uptoBulkAll ds ≤ 1048576)
def OpenSpec.upto (s : _root_.Go.ChangeSpec) : _root_.Go.OpenSpec := { _root_.Go.OpenSpec.ofChange s with cond := some uptoSmall }

/-- 'laws.FnExactReadSlide', WHERE WHAT IT READS IS OF BULK AT MOST 1048576: true; the input reads as it did. -/
def fnExactReadSlideUptoRow : OpenClaim := { program := "ytfhppnmbmdpjeaa", sum := "eee540efe191451938ac2a3dc2642b7bfdbfa017811d50a543b4322aa4273eb6", func := "loop.example/g00951/laws.FnExactReadSlide", spec := "fnExactReadSlide", unfollowed := true, recurses := true, apart := false, narrowed := true }
def FnExactReadSlideUptoSaid : Prop := fnExactReadSlideUptoRow.holds Try.pinned (OpenSpec.upto fnExactReadSlideSpec)

/-- 'laws.FnExactTransferFigure', WHERE WHAT IT READS IS OF BULK AT MOST 1048576: true; the input reads as it did. -/
def fnExactTransferFigureUptoRow : OpenClaim := { program := "ytfhppnmbmdpjeaa", sum := "eee540efe191451938ac2a3dc2642b7bfdbfa017811d50a543b4322aa4273eb6", func := "loop.example/g00951/laws.FnExactTransferFigure", spec := "fnExactTransferFigure", unfollowed := true, recurses := true, apart := false, narrowed := true }
def FnExactTransferFigureUptoSaid : Prop := fnExactTransferFigureUptoRow.holds Try.pinned (OpenSpec.upto fnExactTransferFigureSpec)

/-- 'laws.FnExactCountPlan', WHERE WHAT IT READS IS OF BULK AT MOST 1048576: true; the input reads as it did. -/
def fnExactCountPlanUptoRow : OpenClaim := { program := "ytfhppnmbmdpjeaa", sum := "eee540efe191451938ac2a3dc2642b7bfdbfa017811d50a543b4322aa4273eb6", func := "loop.example/g00951/laws.FnExactCountPlan", spec := "fnExactCountPlan", unfollowed := true, recurses := true, apart := false, narrowed := true }
def FnExactCountPlanUptoSaid : Prop := fnExactCountPlanUptoRow.holds Try.pinned (OpenSpec.upto fnExactCountPlanSpec)

/-- 'laws.FnExactReverseMoves', WHERE WHAT IT READS IS OF BULK AT MOST 1048576: true; the input reads as it did. -/
def fnExactReverseMovesUptoRow : OpenClaim := { program := "ytfhppnmbmdpjeaa", sum := "eee540efe191451938ac2a3dc2642b7bfdbfa017811d50a543b4322aa4273eb6", func := "loop.example/g00951/laws.FnExactReverseMoves", spec := "fnExactReverseMoves", unfollowed := true, recurses := true, apart := false, narrowed := true }
def FnExactReverseMovesUptoSaid : Prop := fnExactReverseMovesUptoRow.holds Try.pinned (OpenSpec.upto fnExactReverseMovesSpec)

/-- 'laws.FnExactTransferTable', WHERE WHAT IT READS IS OF BULK AT MOST 1048576: true; the input reads as it did. -/
def fnExactTransferTableUptoRow : OpenClaim := { program := "ytfhppnmbmdpjeaa", sum := "eee540efe191451938ac2a3dc2642b7bfdbfa017811d50a543b4322aa4273eb6", func := "loop.example/g00951/laws.FnExactTransferTable", spec := "fnExactTransferTable", unfollowed := true, recurses := true, apart := false, narrowed := true }
def FnExactTransferTableUptoSaid : Prop := fnExactTransferTableUptoRow.holds Try.pinned (OpenSpec.upto fnExactTransferTableSpec)

/-- 'laws.FnExactIsPlanFor', WHERE WHAT IT READS IS OF BULK AT MOST 1048576: true; the input reads as it did. -/
def fnExactIsPlanForUptoRow : OpenClaim := { program := "ytfhppnmbmdpjeaa", sum := "eee540efe191451938ac2a3dc2642b7bfdbfa017811d50a543b4322aa4273eb6", func := "loop.example/g00951/laws.FnExactIsPlanFor", spec := "fnExactIsPlanFor", unfollowed := true, recurses := true, apart := false, narrowed := true }
def FnExactIsPlanForUptoSaid : Prop := fnExactIsPlanForUptoRow.holds Try.pinned (OpenSpec.upto fnExactIsPlanForSpec)

/-- 'laws.FnExactPlanFor', WHERE WHAT IT READS IS OF BULK AT MOST 1048576: true; the input reads as it did. -/
def fnExactPlanForUptoRow : OpenClaim := { program := "ytfhppnmbmdpjeaa", sum := "eee540efe191451938ac2a3dc2642b7bfdbfa017811d50a543b4322aa4273eb6", func := "loop.example/g00951/laws.FnExactPlanFor", spec := "fnExactPlanFor", unfollowed := true, recurses := true, apart := false, narrowed := true }
def FnExactPlanForUptoSaid : Prop := fnExactPlanForUptoRow.holds Try.pinned (OpenSpec.upto fnExactPlanForSpec)

/-- 'laws.FnExactPlanUnits', WHERE WHAT IT READS IS OF BULK AT MOST 1048576: true; the input reads as it did. -/
def fnExactPlanUnitsUptoRow : OpenClaim := { program := "ytfhppnmbmdpjeaa", sum := "eee540efe191451938ac2a3dc2642b7bfdbfa017811d50a543b4322aa4273eb6", func := "loop.example/g00951/laws.FnExactPlanUnits", spec := "fnExactPlanUnits", unfollowed := true, recurses := true, apart := false, narrowed := true }
def FnExactPlanUnitsUptoSaid : Prop := fnExactPlanUnitsUptoRow.holds Try.pinned (OpenSpec.upto fnExactPlanUnitsSpec)

/-- 'laws.FnExactBestTerms', WHERE WHAT IT READS IS OF BULK AT MOST 1048576: true; the input reads as it did. -/
def fnExactBestTermsUptoRow : OpenClaim := { program := "ytfhppnmbmdpjeaa", sum := "eee540efe191451938ac2a3dc2642b7bfdbfa017811d50a543b4322aa4273eb6", func := "loop.example/g00951/laws.FnExactBestTerms", spec := "fnExactBestTerms", unfollowed := true, recurses := true, apart := false, narrowed := true }
def FnExactBestTermsUptoSaid : Prop := fnExactBestTermsUptoRow.holds Try.pinned (OpenSpec.upto fnExactBestTermsSpec)

/-- 'laws.FnExactPlanTravel', WHERE WHAT IT READS IS OF BULK AT MOST 1048576: true; the input reads as it did. -/
def fnExactPlanTravelUptoRow : OpenClaim := { program := "ytfhppnmbmdpjeaa", sum := "eee540efe191451938ac2a3dc2642b7bfdbfa017811d50a543b4322aa4273eb6", func := "loop.example/g00951/laws.FnExactPlanTravel", spec := "fnExactPlanTravel", unfollowed := true, recurses := true, apart := false, narrowed := true }
def FnExactPlanTravelUptoSaid : Prop := fnExactPlanTravelUptoRow.holds Try.pinned (OpenSpec.upto fnExactPlanTravelSpec)

/-- 'laws.FnExactLengthNeeded', WHERE WHAT IT READS IS OF BULK AT MOST 1048576: true; the input reads as it did. -/
def fnExactLengthNeededUptoRow : OpenClaim := { program := "ytfhppnmbmdpjeaa", sum := "eee540efe191451938ac2a3dc2642b7bfdbfa017811d50a543b4322aa4273eb6", func := "loop.example/g00951/laws.FnExactLengthNeeded", spec := "fnExactLengthNeeded", unfollowed := true, recurses := true, apart := false, narrowed := true }
def FnExactLengthNeededUptoSaid : Prop := fnExactLengthNeededUptoRow.holds Try.pinned (OpenSpec.upto fnExactLengthNeededSpec)

/-- 'laws.FnExactResultOf', WHERE WHAT IT READS IS OF BULK AT MOST 1048576: true; the input reads as it did. -/
def fnExactResultOfUptoRow : OpenClaim := { program := "ytfhppnmbmdpjeaa", sum := "eee540efe191451938ac2a3dc2642b7bfdbfa017811d50a543b4322aa4273eb6", func := "loop.example/g00951/laws.FnExactResultOf", spec := "fnExactResultOf", unfollowed := true, recurses := true, apart := false, narrowed := true }
def FnExactResultOfUptoSaid : Prop := fnExactResultOfUptoRow.holds Try.pinned (OpenSpec.upto fnExactResultOfSpec)

end Rows
end Go.Proofs.Ytfhppnmbmdpjeaa
