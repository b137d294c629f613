/-
  No cell of these rows narrows 'for every input' (looked for: loops, veiled, ifaces, maps, wideKeys, modest, calm, conditions, laid).
  DERIVED. THE GIVEN ROWS OF THIS SEAT. 12 by the template 'for every input the law returns true; each argument reads behind the call as it read before'; 0 by the template 'total and deterministic' (their statements: YtcnbnlmoohieoaaTotals.lean).
  GIVEN WITH THE SEED: the statements are not yours to turn. If you find one false, say at which input.
  Laid BY PROGRAM, IN A SANDBOX (cutbox-rows.mjs): the forced cells as the released guide's own fill.sh prints them over the translation 59563f2144c504e5… (all of the seat's roots in one cut). By AI agents, Wed Nov 11 2026. No macro, syntax, notation, axiom, sorry.
-/
import Derived.Test.YtcnbnlmoohieoaaChecked
import GoSem.Claim
import GoSem.ClaimJoined
import GoSem.ClaimMapViews
import Derived.JoinedTies
import Derived.KernelRfl
namespace Go.Proofs.Ytcnbnlmoohieoaa
/- THE CELL 'sum', in the pinned program and in every row, IS THE sha256 OF THE DUMP (.gsa) THAT YtcnbnlmoohieoaaProg.lean LOADS. Nothing in Lean hashes anything: it is a label: what it is worth is what the hold of that sum in a sandbox is worth. -/
noncomputable def Try.pinned : Pinned := { name := "ytcnbnlmoohieoaa", sum := "59563f2144c504e580222ce7b85ab6c3fbf666ba4a6b6c72141d2714584efad4", checked := Try.checked }
namespace Rows
def none {H : Type} : Left H := { results := [], args := [] }

/-- 'laws.FnExactOrderOf': WHATEVER THE INPUT: true; the input reads as it did. -/
def fnExactOrderOfSpec : ChangeSpec := { name := "fnExactOrderOf", fn := fun _ => fun
  | [d] => { results := [.lit (.bool true)], args := [d] }
  | _ => none }
def fnExactOrderOfRow : OpenClaim := { program := "ytcnbnlmoohieoaa", sum := "59563f2144c504e580222ce7b85ab6c3fbf666ba4a6b6c72141d2714584efad4", func := "loop.example/g00951/laws.FnExactOrderOf", spec := "fnExactOrderOf", apart := false }
def FnExactOrderOfSaid : Prop := fnExactOrderOfRow.holds Try.pinned (OpenSpec.ofChange fnExactOrderOfSpec)

/-- ITS FALSE NEIGHBOUR: 'it returns false'. Refute it at one input. -/
def fnExactOrderOfWrong : ChangeSpec := { name := "fnExactOrderOf", fn := fun _ => fun
  | [d] => { results := [.lit (.bool false)], args := [d] }
  | _ => none }
def FnExactOrderOfWrongFalsely : Prop := fnExactOrderOfRow.holds Try.pinned (OpenSpec.ofChange fnExactOrderOfWrong)

/-- 'laws.FnExactIsChain': WHATEVER THE INPUT: true; the input reads as it did. -/
def fnExactIsChainSpec : ChangeSpec := { name := "fnExactIsChain", fn := fun _ => fun
  | [d] => { results := [.lit (.bool true)], args := [d] }
  | _ => none }
def fnExactIsChainRow : OpenClaim := { program := "ytcnbnlmoohieoaa", sum := "59563f2144c504e580222ce7b85ab6c3fbf666ba4a6b6c72141d2714584efad4", func := "loop.example/g00951/laws.FnExactIsChain", spec := "fnExactIsChain", unfollowed := true, recurses := true, apart := false }
def FnExactIsChainSaid : Prop := fnExactIsChainRow.holds Try.pinned (OpenSpec.ofChange fnExactIsChainSpec)

/-- ITS FALSE NEIGHBOUR: 'it returns false'. Refute it at one input. -/
def fnExactIsChainWrong : ChangeSpec := { name := "fnExactIsChain", fn := fun _ => fun
  | [d] => { results := [.lit (.bool false)], args := [d] }
  | _ => none }
def FnExactIsChainWrongFalsely : Prop := fnExactIsChainRow.holds Try.pinned (OpenSpec.ofChange fnExactIsChainWrong)

/-- 'laws.FnExactAreMoves': WHATEVER THE INPUT: true; the input reads as it did. -/
def fnExactAreMovesSpec : ChangeSpec := { name := "fnExactAreMoves", fn := fun _ => fun
  | [d] => { results := [.lit (.bool true)], args := [d] }
  | _ => none }
def fnExactAreMovesRow : OpenClaim := { program := "ytcnbnlmoohieoaa", sum := "59563f2144c504e580222ce7b85ab6c3fbf666ba4a6b6c72141d2714584efad4", func := "loop.example/g00951/laws.FnExactAreMoves", spec := "fnExactAreMoves", unfollowed := true, recurses := true, apart := false }
def FnExactAreMovesSaid : Prop := fnExactAreMovesRow.holds Try.pinned (OpenSpec.ofChange fnExactAreMovesSpec)

/-- ITS FALSE NEIGHBOUR: 'it returns false'. Refute it at one input. -/
def fnExactAreMovesWrong : ChangeSpec := { name := "fnExactAreMoves", fn := fun _ => fun
  | [d] => { results := [.lit (.bool false)], args := [d] }
  | _ => none }
def FnExactAreMovesWrongFalsely : Prop := fnExactAreMovesRow.holds Try.pinned (OpenSpec.ofChange fnExactAreMovesWrong)

/-- 'laws.FnExactSumOfTens': WHATEVER THE INPUT: true; the input reads as it did. -/
def fnExactSumOfTensSpec : ChangeSpec := { name := "fnExactSumOfTens", fn := fun _ => fun
  | [d] => { results := [.lit (.bool true)], args := [d] }
  | _ => none }
def fnExactSumOfTensRow : OpenClaim := { program := "ytcnbnlmoohieoaa", sum := "59563f2144c504e580222ce7b85ab6c3fbf666ba4a6b6c72141d2714584efad4", func := "loop.example/g00951/laws.FnExactSumOfTens", spec := "fnExactSumOfTens", unfollowed := true, recurses := true, apart := false }
def FnExactSumOfTensSaid : Prop := fnExactSumOfTensRow.holds Try.pinned (OpenSpec.ofChange fnExactSumOfTensSpec)

/-- ITS FALSE NEIGHBOUR: 'it returns false'. Refute it at one input. -/
def fnExactSumOfTensWrong : ChangeSpec := { name := "fnExactSumOfTens", fn := fun _ => fun
  | [d] => { results := [.lit (.bool false)], args := [d] }
  | _ => none }
def FnExactSumOfTensWrongFalsely : Prop := fnExactSumOfTensRow.holds Try.pinned (OpenSpec.ofChange fnExactSumOfTensWrong)

/-- 'laws.FnExactCountSettings': WHATEVER THE INPUT: true; the input reads as it did. -/
def fnExactCountSettingsSpec : ChangeSpec := { name := "fnExactCountSettings", fn := fun _ => fun
  | [d] => { results := [.lit (.bool true)], args := [d] }
  | _ => none }
def fnExactCountSettingsRow : OpenClaim := { program := "ytcnbnlmoohieoaa", sum := "59563f2144c504e580222ce7b85ab6c3fbf666ba4a6b6c72141d2714584efad4", func := "loop.example/g00951/laws.FnExactCountSettings", spec := "fnExactCountSettings", unfollowed := true, recurses := true, apart := false }
def FnExactCountSettingsSaid : Prop := fnExactCountSettingsRow.holds Try.pinned (OpenSpec.ofChange fnExactCountSettingsSpec)

/-- ITS FALSE NEIGHBOUR: 'it returns false'. Refute it at one input. -/
def fnExactCountSettingsWrong : ChangeSpec := { name := "fnExactCountSettings", fn := fun _ => fun
  | [d] => { results := [.lit (.bool false)], args := [d] }
  | _ => none }
def FnExactCountSettingsWrongFalsely : Prop := fnExactCountSettingsRow.holds Try.pinned (OpenSpec.ofChange fnExactCountSettingsWrong)

/-- 'laws.FnExactJoinChains': WHATEVER THE INPUT: true; the input reads as it did. -/
def fnExactJoinChainsSpec : ChangeSpec := { name := "fnExactJoinChains", fn := fun _ => fun
  | [d1, d2, d3] => { results := [.lit (.bool true)], args := [d1, d2, d3] }
  | _ => none }
def fnExactJoinChainsRow : OpenClaim := { program := "ytcnbnlmoohieoaa", sum := "59563f2144c504e580222ce7b85ab6c3fbf666ba4a6b6c72141d2714584efad4", func := "loop.example/g00951/laws.FnExactJoinChains", spec := "fnExactJoinChains", unfollowed := true, recurses := true, apart := false }
def FnExactJoinChainsSaid : Prop := fnExactJoinChainsRow.holds Try.pinned (OpenSpec.ofChange fnExactJoinChainsSpec)

/-- ITS FALSE NEIGHBOUR: 'it returns false'. Refute it at one input. -/
def fnExactJoinChainsWrong : ChangeSpec := { name := "fnExactJoinChains", fn := fun _ => fun
  | [d1, d2, d3] => { results := [.lit (.bool false)], args := [d1, d2, d3] }
  | _ => none }
def FnExactJoinChainsWrongFalsely : Prop := fnExactJoinChainsRow.holds Try.pinned (OpenSpec.ofChange fnExactJoinChainsWrong)

/-- 'laws.FnExactSwapTerms': WHATEVER THE INPUT: true; the input reads as it did. -/
def fnExactSwapTermsSpec : ChangeSpec := { name := "fnExactSwapTerms", fn := fun _ => fun
  | [d1, d2, d3] => { results := [.lit (.bool true)], args := [d1, d2, d3] }
  | _ => none }
def fnExactSwapTermsRow : OpenClaim := { program := "ytcnbnlmoohieoaa", sum := "59563f2144c504e580222ce7b85ab6c3fbf666ba4a6b6c72141d2714584efad4", func := "loop.example/g00951/laws.FnExactSwapTerms", spec := "fnExactSwapTerms", unfollowed := true, recurses := true, apart := false }
def FnExactSwapTermsSaid : Prop := fnExactSwapTermsRow.holds Try.pinned (OpenSpec.ofChange fnExactSwapTermsSpec)

/-- ITS FALSE NEIGHBOUR: 'it returns false'. Refute it at one input. -/
def fnExactSwapTermsWrong : ChangeSpec := { name := "fnExactSwapTerms", fn := fun _ => fun
  | [d1, d2, d3] => { results := [.lit (.bool false)], args := [d1, d2, d3] }
  | _ => none }
def FnExactSwapTermsWrongFalsely : Prop := fnExactSwapTermsRow.holds Try.pinned (OpenSpec.ofChange fnExactSwapTermsWrong)

/-- 'laws.FnExactSortTerms': WHATEVER THE INPUT: true; the input reads as it did. -/
def fnExactSortTermsSpec : ChangeSpec := { name := "fnExactSortTerms", fn := fun _ => fun
  | [d] => { results := [.lit (.bool true)], args := [d] }
  | _ => none }
def fnExactSortTermsRow : OpenClaim := { program := "ytcnbnlmoohieoaa", sum := "59563f2144c504e580222ce7b85ab6c3fbf666ba4a6b6c72141d2714584efad4", func := "loop.example/g00951/laws.FnExactSortTerms", spec := "fnExactSortTerms", unfollowed := true, recurses := true, apart := false }
def FnExactSortTermsSaid : Prop := fnExactSortTermsRow.holds Try.pinned (OpenSpec.ofChange fnExactSortTermsSpec)

/-- ITS FALSE NEIGHBOUR: 'it returns false'. Refute it at one input. -/
def fnExactSortTermsWrong : ChangeSpec := { name := "fnExactSortTerms", fn := fun _ => fun
  | [d] => { results := [.lit (.bool false)], args := [d] }
  | _ => none }
def FnExactSortTermsWrongFalsely : Prop := fnExactSortTermsRow.holds Try.pinned (OpenSpec.ofChange fnExactSortTermsWrong)

/-- 'laws.FnExactOrderTerms': WHATEVER THE INPUT: true; the input reads as it did. -/
def fnExactOrderTermsSpec : ChangeSpec := { name := "fnExactOrderTerms", fn := fun _ => fun
  | [d1, d2] => { results := [.lit (.bool true)], args := [d1, d2] }
  | _ => none }
def fnExactOrderTermsRow : OpenClaim := { program := "ytcnbnlmoohieoaa", sum := "59563f2144c504e580222ce7b85ab6c3fbf666ba4a6b6c72141d2714584efad4", func := "loop.example/g00951/laws.FnExactOrderTerms", spec := "fnExactOrderTerms", unfollowed := true, recurses := true, apart := false }
def FnExactOrderTermsSaid : Prop := fnExactOrderTermsRow.holds Try.pinned (OpenSpec.ofChange fnExactOrderTermsSpec)

/-- ITS FALSE NEIGHBOUR: 'it returns false'. Refute it at one input. -/
def fnExactOrderTermsWrong : ChangeSpec := { name := "fnExactOrderTerms", fn := fun _ => fun
  | [d1, d2] => { results := [.lit (.bool false)], args := [d1, d2] }
  | _ => none }
def FnExactOrderTermsWrongFalsely : Prop := fnExactOrderTermsRow.holds Try.pinned (OpenSpec.ofChange fnExactOrderTermsWrong)

/-- 'laws.FnExactPlaceTransfer': WHATEVER THE INPUT: true; the input reads as it did. -/
def fnExactPlaceTransferSpec : ChangeSpec := { name := "fnExactPlaceTransfer", fn := fun _ => fun
  | [d1, d2, d3, d4] => { results := [.lit (.bool true)], args := [d1, d2, d3, d4] }
  | _ => none }
def fnExactPlaceTransferRow : OpenClaim := { program := "ytcnbnlmoohieoaa", sum := "59563f2144c504e580222ce7b85ab6c3fbf666ba4a6b6c72141d2714584efad4", func := "loop.example/g00951/laws.FnExactPlaceTransfer", spec := "fnExactPlaceTransfer", apart := false }
def FnExactPlaceTransferSaid : Prop := fnExactPlaceTransferRow.holds Try.pinned (OpenSpec.ofChange fnExactPlaceTransferSpec)

/-- ITS FALSE NEIGHBOUR: 'it returns false'. Refute it at one input. -/
def fnExactPlaceTransferWrong : ChangeSpec := { name := "fnExactPlaceTransfer", fn := fun _ => fun
  | [d1, d2, d3, d4] => { results := [.lit (.bool false)], args := [d1, d2, d3, d4] }
  | _ => none }
def FnExactPlaceTransferWrongFalsely : Prop := fnExactPlaceTransferRow.holds Try.pinned (OpenSpec.ofChange fnExactPlaceTransferWrong)

/-- 'laws.FnExactChainLog': WHATEVER THE INPUT: true; the input reads as it did. -/
def fnExactChainLogSpec : ChangeSpec := { name := "fnExactChainLog", fn := fun _ => fun
  | [d] => { results := [.lit (.bool true)], args := [d] }
  | _ => none }
def fnExactChainLogRow : OpenClaim := { program := "ytcnbnlmoohieoaa", sum := "59563f2144c504e580222ce7b85ab6c3fbf666ba4a6b6c72141d2714584efad4", func := "loop.example/g00951/laws.FnExactChainLog", spec := "fnExactChainLog", unfollowed := true, recurses := true, apart := false }
def FnExactChainLogSaid : Prop := fnExactChainLogRow.holds Try.pinned (OpenSpec.ofChange fnExactChainLogSpec)

/-- ITS FALSE NEIGHBOUR: 'it returns false'. Refute it at one input. -/
def fnExactChainLogWrong : ChangeSpec := { name := "fnExactChainLog", fn := fun _ => fun
  | [d] => { results := [.lit (.bool false)], args := [d] }
  | _ => none }
def FnExactChainLogWrongFalsely : Prop := fnExactChainLogRow.holds Try.pinned (OpenSpec.ofChange fnExactChainLogWrong)

/-- 'laws.FnExactCheckDigits': WHATEVER THE INPUT: true; the input reads as it did. -/
def fnExactCheckDigitsSpec : ChangeSpec := { name := "fnExactCheckDigits", fn := fun _ => fun
  | [d1, d2, d3] => { results := [.lit (.bool true)], args := [d1, d2, d3] }
  | _ => none }
def fnExactCheckDigitsRow : OpenClaim := { program := "ytcnbnlmoohieoaa", sum := "59563f2144c504e580222ce7b85ab6c3fbf666ba4a6b6c72141d2714584efad4", func := "loop.example/g00951/laws.FnExactCheckDigits", spec := "fnExactCheckDigits", unfollowed := true, recurses := true, apart := false }
def FnExactCheckDigitsSaid : Prop := fnExactCheckDigitsRow.holds Try.pinned (OpenSpec.ofChange fnExactCheckDigitsSpec)

/-- ITS FALSE NEIGHBOUR: 'it returns false'. Refute it at one input. -/
def fnExactCheckDigitsWrong : ChangeSpec := { name := "fnExactCheckDigits", fn := fun _ => fun
  | [d1, d2, d3] => { results := [.lit (.bool false)], args := [d1, d2, d3] }
  | _ => none }
def FnExactCheckDigitsWrongFalsely : Prop := fnExactCheckDigitsRow.holds Try.pinned (OpenSpec.ofChange fnExactCheckDigitsWrong)

/- THE SECOND FORM. 'bulk': how many values and letters a reading holds, each counted each time it is reached (what is shared counts as often as it is met; a slice's spare places count too). A statement '..UptoSaid' is the law's where the arguments, and the package variables that the reading takes, are together of bulk at most 1048576: NARROWER than '..Said'. Prove '..Said' where nothing that the law and all that it calls make is longer than what came in: it says more and counts as full. Else prove '..UptoSaid'. A law counts once. -/
mutual
def uptoBulk {H : Type} : DataW H → Nat
  | .lit (.string bytes) => bytes.length + 1
  | .lit _ => 1
  | .nil => 1
  | .ptr d => uptoBulk d + 1
  | .slice elems spare => uptoBulkAll elems + uptoBulkAll spare + 1
  | .agg parts => uptoBulkAll parts + 1
  | .iface _ d => uptoBulk d + 1
  | .map entries => uptoBulkEntries entries + 1
  | .held _ => 1
def uptoBulkAll {H : Type} : List (DataW H) → Nat
  | [] => 0
  | d :: r => uptoBulk d + uptoBulkAll r
def uptoBulkEntries {H : Type} : List (Lit × DataW H) → Nat
  | [] => 0
  | x :: r => uptoBulkEntry x + uptoBulkEntries r
def uptoBulkEntry {H : Type} : Lit × DataW H → Nat
  | (.string bytes, d) => bytes.length + uptoBulk d + 1
  | (_, d) => uptoBulk d + 1
 end
def uptoSmall : (H : Type) → List (DataW H) → Bool := fun _ ds => decide (uptoBulkAll ds ≤ 1048576)
def OpenSpec.upto (s : _root_.Go.ChangeSpec) : _root_.Go.OpenSpec := { _root_.Go.OpenSpec.ofChange s with cond := some uptoSmall }

/-- 'laws.FnExactOrderOf', WHERE WHAT IT READS IS OF BULK AT MOST 1048576: true; the input reads as it did. -/
def fnExactOrderOfUptoRow : OpenClaim := { program := "ytcnbnlmoohieoaa", sum := "59563f2144c504e580222ce7b85ab6c3fbf666ba4a6b6c72141d2714584efad4", func := "loop.example/g00951/laws.FnExactOrderOf", spec := "fnExactOrderOf", apart := false, narrowed := true }
def FnExactOrderOfUptoSaid : Prop := fnExactOrderOfUptoRow.holds Try.pinned (OpenSpec.upto fnExactOrderOfSpec)

/-- 'laws.FnExactIsChain', WHERE WHAT IT READS IS OF BULK AT MOST 1048576: true; the input reads as it did. -/
def fnExactIsChainUptoRow : OpenClaim := { program := "ytcnbnlmoohieoaa", sum := "59563f2144c504e580222ce7b85ab6c3fbf666ba4a6b6c72141d2714584efad4", func := "loop.example/g00951/laws.FnExactIsChain", spec := "fnExactIsChain", unfollowed := true, recurses := true, apart := false, narrowed := true }
def FnExactIsChainUptoSaid : Prop := fnExactIsChainUptoRow.holds Try.pinned (OpenSpec.upto fnExactIsChainSpec)

/-- 'laws.FnExactAreMoves', WHERE WHAT IT READS IS OF BULK AT MOST 1048576: true; the input reads as it did. -/
def fnExactAreMovesUptoRow : OpenClaim := { program := "ytcnbnlmoohieoaa", sum := "59563f2144c504e580222ce7b85ab6c3fbf666ba4a6b6c72141d2714584efad4", func := "loop.example/g00951/laws.FnExactAreMoves", spec := "fnExactAreMoves", unfollowed := true, recurses := true, apart := false, narrowed := true }
def FnExactAreMovesUptoSaid : Prop := fnExactAreMovesUptoRow.holds Try.pinned (OpenSpec.upto fnExactAreMovesSpec)

/-- 'laws.FnExactSumOfTens', WHERE WHAT IT READS IS OF BULK AT MOST 1048576: true; the input reads as it did. -/
def fnExactSumOfTensUptoRow : OpenClaim := { program := "ytcnbnlmoohieoaa", sum := "59563f2144c504e580222ce7b85ab6c3fbf666ba4a6b6c72141d2714584efad4", func := "loop.example/g00951/laws.FnExactSumOfTens", spec := "fnExactSumOfTens", unfollowed := true, recurses := true, apart := false, narrowed := true }
def FnExactSumOfTensUptoSaid : Prop := fnExactSumOfTensUptoRow.holds Try.pinned (OpenSpec.upto fnExactSumOfTensSpec)

/-- 'laws.FnExactCountSettings', WHERE WHAT IT READS IS OF BULK AT MOST 1048576: true; the input reads as it did. -/
def fnExactCountSettingsUptoRow : OpenClaim := { program := "ytcnbnlmoohieoaa", sum := "59563f2144c504e580222ce7b85ab6c3fbf666ba4a6b6c72141d2714584efad4", func := "loop.example/g00951/laws.FnExactCountSettings", spec := "fnExactCountSettings", unfollowed := true, recurses := true, apart := false, narrowed := true }
def FnExactCountSettingsUptoSaid : Prop := fnExactCountSettingsUptoRow.holds Try.pinned (OpenSpec.upto fnExactCountSettingsSpec)

/-- 'laws.FnExactJoinChains', WHERE WHAT IT READS IS OF BULK AT MOST 1048576: true; the input reads as it did. -/
def fnExactJoinChainsUptoRow : OpenClaim := { program := "ytcnbnlmoohieoaa", sum := "59563f2144c504e580222ce7b85ab6c3fbf666ba4a6b6c72141d2714584efad4", func := "loop.example/g00951/laws.FnExactJoinChains", spec := "fnExactJoinChains", unfollowed := true, recurses := true, apart := false, narrowed := true }
def FnExactJoinChainsUptoSaid : Prop := fnExactJoinChainsUptoRow.holds Try.pinned (OpenSpec.upto fnExactJoinChainsSpec)

/-- 'laws.FnExactSwapTerms', WHERE WHAT IT READS IS OF BULK AT MOST 1048576: true; the input reads as it did. -/
def fnExactSwapTermsUptoRow : OpenClaim := { program := "ytcnbnlmoohieoaa", sum := "59563f2144c504e580222ce7b85ab6c3fbf666ba4a6b6c72141d2714584efad4", func := "loop.example/g00951/laws.FnExactSwapTerms", spec := "fnExactSwapTerms", unfollowed := true, recurses := true, apart := false, narrowed := true }
def FnExactSwapTermsUptoSaid : Prop := fnExactSwapTermsUptoRow.holds Try.pinned (OpenSpec.upto fnExactSwapTermsSpec)

/-- 'laws.FnExactSortTerms', WHERE WHAT IT READS IS OF BULK AT MOST 1048576: true; the input reads as it did. -/
def fnExactSortTermsUptoRow : OpenClaim := { program := "ytcnbnlmoohieoaa", sum := "59563f2144c504e580222ce7b85ab6c3fbf666ba4a6b6c72141d2714584efad4", func := "loop.example/g00951/laws.FnExactSortTerms", spec := "fnExactSortTerms", unfollowed := true, recurses := true, apart := false, narrowed := true }
def FnExactSortTermsUptoSaid : Prop := fnExactSortTermsUptoRow.holds Try.pinned (OpenSpec.upto fnExactSortTermsSpec)

/-- 'laws.FnExactOrderTerms', WHERE WHAT IT READS IS OF BULK AT MOST 1048576: true; the input reads as it did. -/
def fnExactOrderTermsUptoRow : OpenClaim := { program := "ytcnbnlmoohieoaa", sum := "59563f2144c504e580222ce7b85ab6c3fbf666ba4a6b6c72141d2714584efad4", func := "loop.example/g00951/laws.FnExactOrderTerms", spec := "fnExactOrderTerms", unfollowed := true, recurses := true, apart := false, narrowed := true }
def FnExactOrderTermsUptoSaid : Prop := fnExactOrderTermsUptoRow.holds Try.pinned (OpenSpec.upto fnExactOrderTermsSpec)

/-- 'laws.FnExactPlaceTransfer', WHERE WHAT IT READS IS OF BULK AT MOST 1048576: true; the input reads as it did. -/
def fnExactPlaceTransferUptoRow : OpenClaim := { program := "ytcnbnlmoohieoaa", sum := "59563f2144c504e580222ce7b85ab6c3fbf666ba4a6b6c72141d2714584efad4", func := "loop.example/g00951/laws.FnExactPlaceTransfer", spec := "fnExactPlaceTransfer", apart := false, narrowed := true }
def FnExactPlaceTransferUptoSaid : Prop := fnExactPlaceTransferUptoRow.holds Try.pinned (OpenSpec.upto fnExactPlaceTransferSpec)

/-- 'laws.FnExactChainLog', WHERE WHAT IT READS IS OF BULK AT MOST 1048576: true; the input reads as it did. -/
def fnExactChainLogUptoRow : OpenClaim := { program := "ytcnbnlmoohieoaa", sum := "59563f2144c504e580222ce7b85ab6c3fbf666ba4a6b6c72141d2714584efad4", func := "loop.example/g00951/laws.FnExactChainLog", spec := "fnExactChainLog", unfollowed := true, recurses := true, apart := false, narrowed := true }
def FnExactChainLogUptoSaid : Prop := fnExactChainLogUptoRow.holds Try.pinned (OpenSpec.upto fnExactChainLogSpec)

/-- 'laws.FnExactCheckDigits', WHERE WHAT IT READS IS OF BULK AT MOST 1048576: true; the input reads as it did. -/
def fnExactCheckDigitsUptoRow : OpenClaim := { program := "ytcnbnlmoohieoaa", sum := "59563f2144c504e580222ce7b85ab6c3fbf666ba4a6b6c72141d2714584efad4", func := "loop.example/g00951/laws.FnExactCheckDigits", spec := "fnExactCheckDigits", unfollowed := true, recurses := true, apart := false, narrowed := true }
def FnExactCheckDigitsUptoSaid : Prop := fnExactCheckDigitsUptoRow.holds Try.pinned (OpenSpec.upto fnExactCheckDigitsSpec)

end Rows
end Go.Proofs.Ytcnbnlmoohieoaa
