/-
  No cell of these rows narrows 'for every input' (looked for: loops, veiled, ifaces, maps, wideKeys, modest, calm, conditions, laid).
  DERIVED. THE GIVEN ROWS OF THIS SEAT. 12 by the template 'for every input the law returns true; each argument reads behind the call as it read before'; 0 by the template 'total and deterministic' (their statements: YteangdeeijlijaaTotals.lean).
  GIVEN WITH THE SEED: the statements are not yours to turn. If you find one false, say at which input.
  Laid BY PROGRAM, IN A SANDBOX (cutbox-rows.mjs): the forced cells as the released guide's own fill.sh prints them over the translation 6a9582e16154adc3… (all of the seat's roots in one cut). By AI agents, Wed Nov 11 2026. No macro, syntax, notation, axiom, sorry.
-/
import Derived.Test.YteangdeeijlijaaChecked
import GoSem.Claim
import GoSem.ClaimJoined
import GoSem.ClaimMapViews
import Derived.JoinedTies
import Derived.KernelRfl
namespace Go.Proofs.Yteangdeeijlijaa
/- THE CELL 'sum', in the pinned program and in every row, IS THE sha256 OF THE DUMP (.gsa) THAT YteangdeeijlijaaProg.lean LOADS. Nothing in Lean hashes anything: it is a label: what it is worth is what the hold of that sum in a sandbox is worth. -/
noncomputable def Try.pinned : Pinned := { name := "yteangdeeijlijaa", sum := "6a9582e16154adc38cc859931d727f0f9d4d2c48b35066b0a7b41bd6a422bc2b", checked := Try.checked }
namespace Rows
def none {H : Type} : Left H := { results := [], args := [] }

/-- 'laws.FnExactTensOf': WHATEVER THE INPUT: true; the input reads as it did. -/
def fnExactTensOfSpec : ChangeSpec := { name := "fnExactTensOf", fn := fun _ => fun
  | [d] => { results := [.lit (.bool true)], args := [d] }
  | _ => none }
def fnExactTensOfRow : OpenClaim := { program := "yteangdeeijlijaa", sum := "6a9582e16154adc38cc859931d727f0f9d4d2c48b35066b0a7b41bd6a422bc2b", func := "loop.example/g00951/laws.FnExactTensOf", spec := "fnExactTensOf", unfollowed := true, recurses := true, apart := false }
def FnExactTensOfSaid : Prop := fnExactTensOfRow.holds Try.pinned (OpenSpec.ofChange fnExactTensOfSpec)

/-- ITS FALSE NEIGHBOUR: 'it returns false'. Refute it at one input. -/
def fnExactTensOfWrong : ChangeSpec := { name := "fnExactTensOf", fn := fun _ => fun
  | [d] => { results := [.lit (.bool false)], args := [d] }
  | _ => none }
def FnExactTensOfWrongFalsely : Prop := fnExactTensOfRow.holds Try.pinned (OpenSpec.ofChange fnExactTensOfWrong)

/-- 'laws.FnExactChainFigure': WHATEVER THE INPUT: true; the input reads as it did. -/
def fnExactChainFigureSpec : ChangeSpec := { name := "fnExactChainFigure", fn := fun _ => fun
  | [d] => { results := [.lit (.bool true)], args := [d] }
  | _ => none }
def fnExactChainFigureRow : OpenClaim := { program := "yteangdeeijlijaa", sum := "6a9582e16154adc38cc859931d727f0f9d4d2c48b35066b0a7b41bd6a422bc2b", func := "loop.example/g00951/laws.FnExactChainFigure", spec := "fnExactChainFigure", unfollowed := true, recurses := true, apart := false }
def FnExactChainFigureSaid : Prop := fnExactChainFigureRow.holds Try.pinned (OpenSpec.ofChange fnExactChainFigureSpec)

/-- ITS FALSE NEIGHBOUR: 'it returns false'. Refute it at one input. -/
def fnExactChainFigureWrong : ChangeSpec := { name := "fnExactChainFigure", fn := fun _ => fun
  | [d] => { results := [.lit (.bool false)], args := [d] }
  | _ => none }
def FnExactChainFigureWrongFalsely : Prop := fnExactChainFigureRow.holds Try.pinned (OpenSpec.ofChange fnExactChainFigureWrong)

/-- 'laws.FnExactPlaceDigits': WHATEVER THE INPUT: true; the input reads as it did. -/
def fnExactPlaceDigitsSpec : ChangeSpec := { name := "fnExactPlaceDigits", fn := fun _ => fun
  | [d1, d2] => { results := [.lit (.bool true)], args := [d1, d2] }
  | _ => none }
def fnExactPlaceDigitsRow : OpenClaim := { program := "yteangdeeijlijaa", sum := "6a9582e16154adc38cc859931d727f0f9d4d2c48b35066b0a7b41bd6a422bc2b", func := "loop.example/g00951/laws.FnExactPlaceDigits", spec := "fnExactPlaceDigits", unfollowed := true, recurses := true, apart := false }
def FnExactPlaceDigitsSaid : Prop := fnExactPlaceDigitsRow.holds Try.pinned (OpenSpec.ofChange fnExactPlaceDigitsSpec)

/-- ITS FALSE NEIGHBOUR: 'it returns false'. Refute it at one input. -/
def fnExactPlaceDigitsWrong : ChangeSpec := { name := "fnExactPlaceDigits", fn := fun _ => fun
  | [d1, d2] => { results := [.lit (.bool false)], args := [d1, d2] }
  | _ => none }
def FnExactPlaceDigitsWrongFalsely : Prop := fnExactPlaceDigitsRow.holds Try.pinned (OpenSpec.ofChange fnExactPlaceDigitsWrong)

/-- 'laws.FnExactCarryOf': WHATEVER THE INPUT: true; the input reads as it did. -/
def fnExactCarryOfSpec : ChangeSpec := { name := "fnExactCarryOf", fn := fun _ => fun
  | [d] => { results := [.lit (.bool true)], args := [d] }
  | _ => none }
def fnExactCarryOfRow : OpenClaim := { program := "yteangdeeijlijaa", sum := "6a9582e16154adc38cc859931d727f0f9d4d2c48b35066b0a7b41bd6a422bc2b", func := "loop.example/g00951/laws.FnExactCarryOf", spec := "fnExactCarryOf", unfollowed := true, recurses := true, apart := false }
def FnExactCarryOfSaid : Prop := fnExactCarryOfRow.holds Try.pinned (OpenSpec.ofChange fnExactCarryOfSpec)

/-- ITS FALSE NEIGHBOUR: 'it returns false'. Refute it at one input. -/
def fnExactCarryOfWrong : ChangeSpec := { name := "fnExactCarryOf", fn := fun _ => fun
  | [d] => { results := [.lit (.bool false)], args := [d] }
  | _ => none }
def FnExactCarryOfWrongFalsely : Prop := fnExactCarryOfRow.holds Try.pinned (OpenSpec.ofChange fnExactCarryOfWrong)

/-- 'laws.FnExactChainSpan': WHATEVER THE INPUT: true; the input reads as it did. -/
def fnExactChainSpanSpec : ChangeSpec := { name := "fnExactChainSpan", fn := fun _ => fun
  | [d] => { results := [.lit (.bool true)], args := [d] }
  | _ => none }
def fnExactChainSpanRow : OpenClaim := { program := "yteangdeeijlijaa", sum := "6a9582e16154adc38cc859931d727f0f9d4d2c48b35066b0a7b41bd6a422bc2b", func := "loop.example/g00951/laws.FnExactChainSpan", spec := "fnExactChainSpan", unfollowed := true, recurses := true, apart := false }
def FnExactChainSpanSaid : Prop := fnExactChainSpanRow.holds Try.pinned (OpenSpec.ofChange fnExactChainSpanSpec)

/-- ITS FALSE NEIGHBOUR: 'it returns false'. Refute it at one input. -/
def fnExactChainSpanWrong : ChangeSpec := { name := "fnExactChainSpan", fn := fun _ => fun
  | [d] => { results := [.lit (.bool false)], args := [d] }
  | _ => none }
def FnExactChainSpanWrongFalsely : Prop := fnExactChainSpanRow.holds Try.pinned (OpenSpec.ofChange fnExactChainSpanWrong)

/-- 'laws.FnExactRoughChain': WHATEVER THE INPUT: true; the input reads as it did. -/
def fnExactRoughChainSpec : ChangeSpec := { name := "fnExactRoughChain", fn := fun _ => fun
  | [d] => { results := [.lit (.bool true)], args := [d] }
  | _ => none }
def fnExactRoughChainRow : OpenClaim := { program := "yteangdeeijlijaa", sum := "6a9582e16154adc38cc859931d727f0f9d4d2c48b35066b0a7b41bd6a422bc2b", func := "loop.example/g00951/laws.FnExactRoughChain", spec := "fnExactRoughChain", unfollowed := true, recurses := true, apart := false }
def FnExactRoughChainSaid : Prop := fnExactRoughChainRow.holds Try.pinned (OpenSpec.ofChange fnExactRoughChainSpec)

/-- ITS FALSE NEIGHBOUR: 'it returns false'. Refute it at one input. -/
def fnExactRoughChainWrong : ChangeSpec := { name := "fnExactRoughChain", fn := fun _ => fun
  | [d] => { results := [.lit (.bool false)], args := [d] }
  | _ => none }
def FnExactRoughChainWrongFalsely : Prop := fnExactRoughChainRow.holds Try.pinned (OpenSpec.ofChange fnExactRoughChainWrong)

/-- 'laws.FnExactTransferExact': WHATEVER THE INPUT: true; the input reads as it did. -/
def fnExactTransferExactSpec : ChangeSpec := { name := "fnExactTransferExact", fn := fun _ => fun
  | [d1, d2, d3] => { results := [.lit (.bool true)], args := [d1, d2, d3] }
  | _ => none }
def fnExactTransferExactRow : OpenClaim := { program := "yteangdeeijlijaa", sum := "6a9582e16154adc38cc859931d727f0f9d4d2c48b35066b0a7b41bd6a422bc2b", func := "loop.example/g00951/laws.FnExactTransferExact", spec := "fnExactTransferExact", unfollowed := true, recurses := true, apart := false }
def FnExactTransferExactSaid : Prop := fnExactTransferExactRow.holds Try.pinned (OpenSpec.ofChange fnExactTransferExactSpec)

/-- ITS FALSE NEIGHBOUR: 'it returns false'. Refute it at one input. -/
def fnExactTransferExactWrong : ChangeSpec := { name := "fnExactTransferExact", fn := fun _ => fun
  | [d1, d2, d3] => { results := [.lit (.bool false)], args := [d1, d2, d3] }
  | _ => none }
def FnExactTransferExactWrongFalsely : Prop := fnExactTransferExactRow.holds Try.pinned (OpenSpec.ofChange fnExactTransferExactWrong)

/-- 'laws.FnExactPartialTens': WHATEVER THE INPUT: true; the input reads as it did. -/
def fnExactPartialTensSpec : ChangeSpec := { name := "fnExactPartialTens", fn := fun _ => fun
  | [d] => { results := [.lit (.bool true)], args := [d] }
  | _ => none }
def fnExactPartialTensRow : OpenClaim := { program := "yteangdeeijlijaa", sum := "6a9582e16154adc38cc859931d727f0f9d4d2c48b35066b0a7b41bd6a422bc2b", func := "loop.example/g00951/laws.FnExactPartialTens", spec := "fnExactPartialTens", unfollowed := true, recurses := true, apart := false }
def FnExactPartialTensSaid : Prop := fnExactPartialTensRow.holds Try.pinned (OpenSpec.ofChange fnExactPartialTensSpec)

/-- ITS FALSE NEIGHBOUR: 'it returns false'. Refute it at one input. -/
def fnExactPartialTensWrong : ChangeSpec := { name := "fnExactPartialTens", fn := fun _ => fun
  | [d] => { results := [.lit (.bool false)], args := [d] }
  | _ => none }
def FnExactPartialTensWrongFalsely : Prop := fnExactPartialTensRow.holds Try.pinned (OpenSpec.ofChange fnExactPartialTensWrong)

/-- 'laws.FnExactApplyMove': WHATEVER THE INPUT: true; the input reads as it did. -/
def fnExactApplyMoveSpec : ChangeSpec := { name := "fnExactApplyMove", fn := fun _ => fun
  | [d1, d2, d3] => { results := [.lit (.bool true)], args := [d1, d2, d3] }
  | _ => none }
def fnExactApplyMoveRow : OpenClaim := { program := "yteangdeeijlijaa", sum := "6a9582e16154adc38cc859931d727f0f9d4d2c48b35066b0a7b41bd6a422bc2b", func := "loop.example/g00951/laws.FnExactApplyMove", spec := "fnExactApplyMove", unfollowed := true, recurses := true, apart := false }
def FnExactApplyMoveSaid : Prop := fnExactApplyMoveRow.holds Try.pinned (OpenSpec.ofChange fnExactApplyMoveSpec)

/-- ITS FALSE NEIGHBOUR: 'it returns false'. Refute it at one input. -/
def fnExactApplyMoveWrong : ChangeSpec := { name := "fnExactApplyMove", fn := fun _ => fun
  | [d1, d2, d3] => { results := [.lit (.bool false)], args := [d1, d2, d3] }
  | _ => none }
def FnExactApplyMoveWrongFalsely : Prop := fnExactApplyMoveRow.holds Try.pinned (OpenSpec.ofChange fnExactApplyMoveWrong)

/-- 'laws.FnExactFirstImpossible': WHATEVER THE INPUT: true; the input reads as it did. -/
def fnExactFirstImpossibleSpec : ChangeSpec := { name := "fnExactFirstImpossible", fn := fun _ => fun
  | [d1, d2, d3] => { results := [.lit (.bool true)], args := [d1, d2, d3] }
  | _ => none }
def fnExactFirstImpossibleRow : OpenClaim := { program := "yteangdeeijlijaa", sum := "6a9582e16154adc38cc859931d727f0f9d4d2c48b35066b0a7b41bd6a422bc2b", func := "loop.example/g00951/laws.FnExactFirstImpossible", spec := "fnExactFirstImpossible", unfollowed := true, recurses := true, apart := false }
def FnExactFirstImpossibleSaid : Prop := fnExactFirstImpossibleRow.holds Try.pinned (OpenSpec.ofChange fnExactFirstImpossibleSpec)

/-- ITS FALSE NEIGHBOUR: 'it returns false'. Refute it at one input. -/
def fnExactFirstImpossibleWrong : ChangeSpec := { name := "fnExactFirstImpossible", fn := fun _ => fun
  | [d1, d2, d3] => { results := [.lit (.bool false)], args := [d1, d2, d3] }
  | _ => none }
def FnExactFirstImpossibleWrongFalsely : Prop := fnExactFirstImpossibleRow.holds Try.pinned (OpenSpec.ofChange fnExactFirstImpossibleWrong)

/-- 'laws.FnExactTravelOf': WHATEVER THE INPUT: true; the input reads as it did. -/
def fnExactTravelOfSpec : ChangeSpec := { name := "fnExactTravelOf", fn := fun _ => fun
  | [d1, d2, d3] => { results := [.lit (.bool true)], args := [d1, d2, d3] }
  | _ => none }
def fnExactTravelOfRow : OpenClaim := { program := "yteangdeeijlijaa", sum := "6a9582e16154adc38cc859931d727f0f9d4d2c48b35066b0a7b41bd6a422bc2b", func := "loop.example/g00951/laws.FnExactTravelOf", spec := "fnExactTravelOf", unfollowed := true, recurses := true, apart := false }
def FnExactTravelOfSaid : Prop := fnExactTravelOfRow.holds Try.pinned (OpenSpec.ofChange fnExactTravelOfSpec)

/-- ITS FALSE NEIGHBOUR: 'it returns false'. Refute it at one input. -/
def fnExactTravelOfWrong : ChangeSpec := { name := "fnExactTravelOf", fn := fun _ => fun
  | [d1, d2, d3] => { results := [.lit (.bool false)], args := [d1, d2, d3] }
  | _ => none }
def FnExactTravelOfWrongFalsely : Prop := fnExactTravelOfRow.holds Try.pinned (OpenSpec.ofChange fnExactTravelOfWrong)

/-- 'laws.FnExactRunMoves': WHATEVER THE INPUT: true; the input reads as it did. -/
def fnExactRunMovesSpec : ChangeSpec := { name := "fnExactRunMoves", fn := fun _ => fun
  | [d1, d2, d3] => { results := [.lit (.bool true)], args := [d1, d2, d3] }
  | _ => none }
def fnExactRunMovesRow : OpenClaim := { program := "yteangdeeijlijaa", sum := "6a9582e16154adc38cc859931d727f0f9d4d2c48b35066b0a7b41bd6a422bc2b", func := "loop.example/g00951/laws.FnExactRunMoves", spec := "fnExactRunMoves", unfollowed := true, recurses := true, apart := false }
def FnExactRunMovesSaid : Prop := fnExactRunMovesRow.holds Try.pinned (OpenSpec.ofChange fnExactRunMovesSpec)

/-- ITS FALSE NEIGHBOUR: 'it returns false'. Refute it at one input. -/
def fnExactRunMovesWrong : ChangeSpec := { name := "fnExactRunMoves", fn := fun _ => fun
  | [d1, d2, d3] => { results := [.lit (.bool false)], args := [d1, d2, d3] }
  | _ => none }
def FnExactRunMovesWrongFalsely : Prop := fnExactRunMovesRow.holds Try.pinned (OpenSpec.ofChange fnExactRunMovesWrong)

/- THE SECOND FORM. 'bulk': how many values and letters a reading holds, each counted each time it is reached (what is shared counts as often as it is met; a slice's spare places count too). A statement '..UptoSaid' is the law's where the arguments, and the package variables that the reading takes, are together of bulk at most 1048576: NARROWER than '..Said'. Prove '..Said' where nothing that the law and all that it calls make is longer than what came in: it says more and counts as full. Else prove '..UptoSaid'. A law counts once. -/
mutual
def uptoBulk {H : Type} : DataW H → Nat
  | .lit (.string bytes) => bytes.length + 1
  | .lit _ => 1
  | .nil => 1
  | .ptr d => uptoBulk d + 1
  | .slice elems spare => uptoBulkAll elems + uptoBulkAll spare + 1
  | .agg parts => uptoBulkAll parts + 1
  | .iface _ d => uptoBulk d + 1
  | .map entries => uptoBulkEntries entries + 1
  | .held _ => 1
def uptoBulkAll {H : Type} : List (DataW H) → Nat
  | [] => 0
  | d :: r => uptoBulk d + uptoBulkAll r
def uptoBulkEntries {H : Type} : List (Lit × DataW H) → Nat
  | [] => 0
  | x :: r => uptoBulkEntry x + uptoBulkEntries r
def uptoBulkEntry {H : Type} : Lit × DataW H → Nat
  | (.string bytes, d) => bytes.length + uptoBulk d + 1
  | (_, d) => uptoBulk d + 1
 end
def uptoSmall : (H : Type) → List (DataW H) → Bool := fun _ ds => decide (uptoBulkAll ds ≤ 1048576)
def OpenSpec.upto (s : _root_.Go.ChangeSpec) : _root_.Go.OpenSpec := { _root_.Go.OpenSpec.ofChange s with cond := some uptoSmall }

/-- 'laws.FnExactTensOf', WHERE WHAT IT READS IS OF BULK AT MOST 1048576: true; the input reads as it did. -/
def fnExactTensOfUptoRow : OpenClaim := { program := "yteangdeeijlijaa", sum := "6a9582e16154adc38cc859931d727f0f9d4d2c48b35066b0a7b41bd6a422bc2b", func := "loop.example/g00951/laws.FnExactTensOf", spec := "fnExactTensOf", unfollowed := true, recurses := true, apart := false, narrowed := true }
def FnExactTensOfUptoSaid : Prop := fnExactTensOfUptoRow.holds Try.pinned (OpenSpec.upto fnExactTensOfSpec)

/-- 'laws.FnExactChainFigure', WHERE WHAT IT READS IS OF BULK AT MOST 1048576: true; the input reads as it did. -/
def fnExactChainFigureUptoRow : OpenClaim := { program := "yteangdeeijlijaa", sum := "6a9582e16154adc38cc859931d727f0f9d4d2c48b35066b0a7b41bd6a422bc2b", func := "loop.example/g00951/laws.FnExactChainFigure", spec := "fnExactChainFigure", unfollowed := true, recurses := true, apart := false, narrowed := true }
def FnExactChainFigureUptoSaid : Prop := fnExactChainFigureUptoRow.holds Try.pinned (OpenSpec.upto fnExactChainFigureSpec)

/-- 'laws.FnExactPlaceDigits', WHERE WHAT IT READS IS OF BULK AT MOST 1048576: true; the input reads as it did. -/
def fnExactPlaceDigitsUptoRow : OpenClaim := { program := "yteangdeeijlijaa", sum := "6a9582e16154adc38cc859931d727f0f9d4d2c48b35066b0a7b41bd6a422bc2b", func := "loop.example/g00951/laws.FnExactPlaceDigits", spec := "fnExactPlaceDigits", unfollowed := true, recurses := true, apart := false, narrowed := true }
def FnExactPlaceDigitsUptoSaid : Prop := fnExactPlaceDigitsUptoRow.holds Try.pinned (OpenSpec.upto fnExactPlaceDigitsSpec)

/-- 'laws.FnExactCarryOf', WHERE WHAT IT READS IS OF BULK AT MOST 1048576: true; the input reads as it did. -/
def fnExactCarryOfUptoRow : OpenClaim := { program := "yteangdeeijlijaa", sum := "6a9582e16154adc38cc859931d727f0f9d4d2c48b35066b0a7b41bd6a422bc2b", func := "loop.example/g00951/laws.FnExactCarryOf", spec := "fnExactCarryOf", unfollowed := true, recurses := true, apart := false, narrowed := true }
def FnExactCarryOfUptoSaid : Prop := fnExactCarryOfUptoRow.holds Try.pinned (OpenSpec.upto fnExactCarryOfSpec)

/-- 'laws.FnExactChainSpan', WHERE WHAT IT READS IS OF BULK AT MOST 1048576: true; the input reads as it did. -/
def fnExactChainSpanUptoRow : OpenClaim := { program := "yteangdeeijlijaa", sum := "6a9582e16154adc38cc859931d727f0f9d4d2c48b35066b0a7b41bd6a422bc2b", func := "loop.example/g00951/laws.FnExactChainSpan", spec := "fnExactChainSpan", unfollowed := true, recurses := true, apart := false, narrowed := true }
def FnExactChainSpanUptoSaid : Prop := fnExactChainSpanUptoRow.holds Try.pinned (OpenSpec.upto fnExactChainSpanSpec)

/-- 'laws.FnExactRoughChain', WHERE WHAT IT READS IS OF BULK AT MOST 1048576: true; the input reads as it did. -/
def fnExactRoughChainUptoRow : OpenClaim := { program := "yteangdeeijlijaa", sum := "6a9582e16154adc38cc859931d727f0f9d4d2c48b35066b0a7b41bd6a422bc2b", func := "loop.example/g00951/laws.FnExactRoughChain", spec := "fnExactRoughChain", unfollowed := true, recurses := true, apart := false, narrowed := true }
def FnExactRoughChainUptoSaid : Prop := fnExactRoughChainUptoRow.holds Try.pinned (OpenSpec.upto fnExactRoughChainSpec)

/-- 'laws.FnExactTransferExact', WHERE WHAT IT READS IS OF BULK AT MOST 1048576: true; the input reads as it did. -/
def fnExactTransferExactUptoRow : OpenClaim := { program := "yteangdeeijlijaa", sum := "6a9582e16154adc38cc859931d727f0f9d4d2c48b35066b0a7b41bd6a422bc2b", func := "loop.example/g00951/laws.FnExactTransferExact", spec := "fnExactTransferExact", unfollowed := true, recurses := true, apart := false, narrowed := true }
def FnExactTransferExactUptoSaid : Prop := fnExactTransferExactUptoRow.holds Try.pinned (OpenSpec.upto fnExactTransferExactSpec)

/-- 'laws.FnExactPartialTens', WHERE WHAT IT READS IS OF BULK AT MOST 1048576: true; the input reads as it did. -/
def fnExactPartialTensUptoRow : OpenClaim := { program := "yteangdeeijlijaa", sum := "6a9582e16154adc38cc859931d727f0f9d4d2c48b35066b0a7b41bd6a422bc2b", func := "loop.example/g00951/laws.FnExactPartialTens", spec := "fnExactPartialTens", unfollowed := true, recurses := true, apart := false, narrowed := true }
def FnExactPartialTensUptoSaid : Prop := fnExactPartialTensUptoRow.holds Try.pinned (OpenSpec.upto fnExactPartialTensSpec)

/-- 'laws.FnExactApplyMove', WHERE WHAT IT READS IS OF BULK AT MOST 1048576: true; the input reads as it did. -/
def fnExactApplyMoveUptoRow : OpenClaim := { program := "yteangdeeijlijaa", sum := "6a9582e16154adc38cc859931d727f0f9d4d2c48b35066b0a7b41bd6a422bc2b", func := "loop.example/g00951/laws.FnExactApplyMove", spec := "fnExactApplyMove", unfollowed := true, recurses := true, apart := false, narrowed := true }
def FnExactApplyMoveUptoSaid : Prop := fnExactApplyMoveUptoRow.holds Try.pinned (OpenSpec.upto fnExactApplyMoveSpec)

/-- 'laws.FnExactFirstImpossible', WHERE WHAT IT READS IS OF BULK AT MOST 1048576: true; the input reads as it did. -/
def fnExactFirstImpossibleUptoRow : OpenClaim := { program := "yteangdeeijlijaa", sum := "6a9582e16154adc38cc859931d727f0f9d4d2c48b35066b0a7b41bd6a422bc2b", func := "loop.example/g00951/laws.FnExactFirstImpossible", spec := "fnExactFirstImpossible", unfollowed := true, recurses := true, apart := false, narrowed := true }
def FnExactFirstImpossibleUptoSaid : Prop := fnExactFirstImpossibleUptoRow.holds Try.pinned (OpenSpec.upto fnExactFirstImpossibleSpec)

/-- 'laws.FnExactTravelOf', WHERE WHAT IT READS IS OF BULK AT MOST 1048576: true; the input reads as it did. -/
def fnExactTravelOfUptoRow : OpenClaim := { program := "yteangdeeijlijaa", sum := "6a9582e16154adc38cc859931d727f0f9d4d2c48b35066b0a7b41bd6a422bc2b", func := "loop.example/g00951/laws.FnExactTravelOf", spec := "fnExactTravelOf", unfollowed := true, recurses := true, apart := false, narrowed := true }
def FnExactTravelOfUptoSaid : Prop := fnExactTravelOfUptoRow.holds Try.pinned (OpenSpec.upto fnExactTravelOfSpec)

/-- 'laws.FnExactRunMoves', WHERE WHAT IT READS IS OF BULK AT MOST 1048576: true; the input reads as it did. -/
def fnExactRunMovesUptoRow : OpenClaim := { program := "yteangdeeijlijaa", sum := "6a9582e16154adc38cc859931d727f0f9d4d2c48b35066b0a7b41bd6a422bc2b", func := "loop.example/g00951/laws.FnExactRunMoves", spec := "fnExactRunMoves", unfollowed := true, recurses := true, apart := false, narrowed := true }
def FnExactRunMovesUptoSaid : Prop := fnExactRunMovesUptoRow.holds Try.pinned (OpenSpec.upto fnExactRunMovesSpec)

end Rows
end Go.Proofs.Yteangdeeijlijaa
