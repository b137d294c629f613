/-
  No cell of these rows narrows 'for every input' (looked for: loops, veiled, ifaces, maps, wideKeys, modest, calm, conditions, laid).
  DERIVED. THE GIVEN ROWS OF THIS SEAT. 6 by the template 'for every input the law returns true; each argument reads behind the call as it read before'; 0 by the template 'total and deterministic' (their statements: YtkoojngonldcbaaTotals.lean).
  GIVEN WITH THE SEED: the statements are not yours to turn. If you find one false, say at which input.
  Laid BY PROGRAM, IN A SANDBOX (cutbox-rows.mjs): the forced cells as the released guide's own fill.sh prints them over the translation 7558fc07769bbb78… (all of the seat's roots in one cut). By AI agents, Wed Nov 11 2026. No macro, syntax, notation, axiom, sorry.
-/
import Derived.Test.YtkoojngonldcbaaChecked
import GoSem.Claim
import GoSem.ClaimJoined
import GoSem.ClaimMapViews
import Derived.JoinedTies
import Derived.KernelRfl
namespace Go.Proofs.Ytkoojngonldcbaa
/- THE CELL 'sum', in the pinned program and in every row, IS THE sha256 OF THE DUMP (.gsa) THAT YtkoojngonldcbaaProg.lean LOADS. Nothing in Lean hashes anything: it is a label: what it is worth is what the hold of that sum in a sandbox is worth. -/
noncomputable def Try.pinned : Pinned := { name := "ytkoojngonldcbaa", sum := "7558fc07769bbb78467bbe000efbc8cba5f8e45d3591cb42fd9009219f75c40d", checked := Try.checked }
namespace Rows
def none {H : Type} : Left H := { results := [], args := [] }

/-- 'laws.FnChains': WHATEVER THE INPUT: true; the input reads as it did. -/
def fnChainsSpec : ChangeSpec := { name := "fnChains", fn := fun _ => fun
  | [d] => { results := [.lit (.bool true)], args := [d] }
  | _ => none }
def fnChainsRow : OpenClaim := { program := "ytkoojngonldcbaa", sum := "7558fc07769bbb78467bbe000efbc8cba5f8e45d3591cb42fd9009219f75c40d", func := "loop.example/g00951/laws.FnChains", spec := "fnChains", unfollowed := true, recurses := true, apart := false }
def FnChainsSaid : Prop := fnChainsRow.holds Try.pinned (OpenSpec.ofChange fnChainsSpec)

/-- ITS FALSE NEIGHBOUR: 'it returns false'. Refute it at one input. -/
def fnChainsWrong : ChangeSpec := { name := "fnChains", fn := fun _ => fun
  | [d] => { results := [.lit (.bool false)], args := [d] }
  | _ => none }
def FnChainsWrongFalsely : Prop := fnChainsRow.holds Try.pinned (OpenSpec.ofChange fnChainsWrong)

/-- 'laws.FnTens': WHATEVER THE INPUT: true; the input reads as it did. -/
def fnTensSpec : ChangeSpec := { name := "fnTens", fn := fun _ => fun
  | [d] => { results := [.lit (.bool true)], args := [d] }
  | _ => none }
def fnTensRow : OpenClaim := { program := "ytkoojngonldcbaa", sum := "7558fc07769bbb78467bbe000efbc8cba5f8e45d3591cb42fd9009219f75c40d", func := "loop.example/g00951/laws.FnTens", spec := "fnTens", unfollowed := true, recurses := true, apart := false }
def FnTensSaid : Prop := fnTensRow.holds Try.pinned (OpenSpec.ofChange fnTensSpec)

/-- ITS FALSE NEIGHBOUR: 'it returns false'. Refute it at one input. -/
def fnTensWrong : ChangeSpec := { name := "fnTens", fn := fun _ => fun
  | [d] => { results := [.lit (.bool false)], args := [d] }
  | _ => none }
def FnTensWrongFalsely : Prop := fnTensRow.holds Try.pinned (OpenSpec.ofChange fnTensWrong)

/-- 'laws.FnRough': WHATEVER THE INPUT: true; the input reads as it did. -/
def fnRoughSpec : ChangeSpec := { name := "fnRough", fn := fun _ => fun
  | [d] => { results := [.lit (.bool true)], args := [d] }
  | _ => none }
def fnRoughRow : OpenClaim := { program := "ytkoojngonldcbaa", sum := "7558fc07769bbb78467bbe000efbc8cba5f8e45d3591cb42fd9009219f75c40d", func := "loop.example/g00951/laws.FnRough", spec := "fnRough", unfollowed := true, recurses := true, apart := false }
def FnRoughSaid : Prop := fnRoughRow.holds Try.pinned (OpenSpec.ofChange fnRoughSpec)

/-- ITS FALSE NEIGHBOUR: 'it returns false'. Refute it at one input. -/
def fnRoughWrong : ChangeSpec := { name := "fnRough", fn := fun _ => fun
  | [d] => { results := [.lit (.bool false)], args := [d] }
  | _ => none }
def FnRoughWrongFalsely : Prop := fnRoughRow.holds Try.pinned (OpenSpec.ofChange fnRoughWrong)

/-- 'laws.FnChainValues': WHATEVER THE INPUT: true; the input reads as it did. -/
def fnChainValuesSpec : ChangeSpec := { name := "fnChainValues", fn := fun _ => fun
  | [d] => { results := [.lit (.bool true)], args := [d] }
  | _ => none }
def fnChainValuesRow : OpenClaim := { program := "ytkoojngonldcbaa", sum := "7558fc07769bbb78467bbe000efbc8cba5f8e45d3591cb42fd9009219f75c40d", func := "loop.example/g00951/laws.FnChainValues", spec := "fnChainValues", unfollowed := true, recurses := true, apart := false }
def FnChainValuesSaid : Prop := fnChainValuesRow.holds Try.pinned (OpenSpec.ofChange fnChainValuesSpec)

/-- ITS FALSE NEIGHBOUR: 'it returns false'. Refute it at one input. -/
def fnChainValuesWrong : ChangeSpec := { name := "fnChainValues", fn := fun _ => fun
  | [d] => { results := [.lit (.bool false)], args := [d] }
  | _ => none }
def FnChainValuesWrongFalsely : Prop := fnChainValuesRow.holds Try.pinned (OpenSpec.ofChange fnChainValuesWrong)

/-- 'laws.FnMoves': WHATEVER THE INPUT: true; the input reads as it did. -/
def fnMovesSpec : ChangeSpec := { name := "fnMoves", fn := fun _ => fun
  | [d] => { results := [.lit (.bool true)], args := [d] }
  | _ => none }
def fnMovesRow : OpenClaim := { program := "ytkoojngonldcbaa", sum := "7558fc07769bbb78467bbe000efbc8cba5f8e45d3591cb42fd9009219f75c40d", func := "loop.example/g00951/laws.FnMoves", spec := "fnMoves", unfollowed := true, recurses := true, apart := false }
def FnMovesSaid : Prop := fnMovesRow.holds Try.pinned (OpenSpec.ofChange fnMovesSpec)

/-- ITS FALSE NEIGHBOUR: 'it returns false'. Refute it at one input. -/
def fnMovesWrong : ChangeSpec := { name := "fnMoves", fn := fun _ => fun
  | [d] => { results := [.lit (.bool false)], args := [d] }
  | _ => none }
def FnMovesWrongFalsely : Prop := fnMovesRow.holds Try.pinned (OpenSpec.ofChange fnMovesWrong)

/-- 'laws.FnSettings': WHATEVER THE INPUT: true; the input reads as it did. -/
def fnSettingsSpec : ChangeSpec := { name := "fnSettings", fn := fun _ => fun
  | [d] => { results := [.lit (.bool true)], args := [d] }
  | _ => none }
def fnSettingsRow : OpenClaim := { program := "ytkoojngonldcbaa", sum := "7558fc07769bbb78467bbe000efbc8cba5f8e45d3591cb42fd9009219f75c40d", func := "loop.example/g00951/laws.FnSettings", spec := "fnSettings", unfollowed := true, recurses := true, apart := false }
def FnSettingsSaid : Prop := fnSettingsRow.holds Try.pinned (OpenSpec.ofChange fnSettingsSpec)

/-- ITS FALSE NEIGHBOUR: 'it returns false'. Refute it at one input. -/
def fnSettingsWrong : ChangeSpec := { name := "fnSettings", fn := fun _ => fun
  | [d] => { results := [.lit (.bool false)], args := [d] }
  | _ => none }
def FnSettingsWrongFalsely : Prop := fnSettingsRow.holds Try.pinned (OpenSpec.ofChange fnSettingsWrong)

/- THE SECOND FORM. 'bulk': how many values and letters a reading holds, each counted each time it is reached (what is shared counts as often as it is met; a slice's spare places count too). A statement '..UptoSaid' is the law's where the arguments, and the package variables that the reading takes, are together of bulk at most 1048576: NARROWER than '..Said'. Prove '..Said' where nothing that the law and all that it calls make is longer than what came in: it says more and counts as full. Else prove '..UptoSaid'. A law counts once. -/
mutual
def uptoBulk {H : Type} : DataW H → Nat
  | .lit (.string bytes) => bytes.length + 1
  | .lit _ => 1
  | .nil => 1
  | .ptr d => uptoBulk d + 1
  | .slice elems spare => uptoBulkAll elems + uptoBulkAll spare + 1
  | .agg parts => uptoBulkAll parts + 1
  | .iface _ d => uptoBulk d + 1
  | .map entries => uptoBulkEntries entries + 1
  | .held _ => 1
def uptoBulkAll {H : Type} : List (DataW H) → Nat
  | [] => 0
  | d :: r => uptoBulk d + uptoBulkAll r
def uptoBulkEntries {H : Type} : List (Lit × DataW H) → Nat
  | [] => 0
  | x :: r => uptoBulkEntry x + uptoBulkEntries r
def uptoBulkEntry {H : Type} : Lit × DataW H → Nat
  | (.string bytes, d) => bytes.length + uptoBulk d + 1
  | (_, d) => uptoBulk d + 1
 end
def uptoSmall : (H : Type) → List (DataW H) → Bool := fun _ ds => decide (uptoBulkAll ds ≤ 1048576)
def OpenSpec.upto (s : _root_.Go.ChangeSpec) : _root_.Go.OpenSpec := { _root_.Go.OpenSpec.ofChange s with cond := some uptoSmall }

/-- 'laws.FnChains', WHERE WHAT IT READS IS OF BULK AT MOST 1048576: true; the input reads as it did. -/
def fnChainsUptoRow : OpenClaim := { program := "ytkoojngonldcbaa", sum := "7558fc07769bbb78467bbe000efbc8cba5f8e45d3591cb42fd9009219f75c40d", func := "loop.example/g00951/laws.FnChains", spec := "fnChains", unfollowed := true, recurses := true, apart := false, narrowed := true }
def FnChainsUptoSaid : Prop := fnChainsUptoRow.holds Try.pinned (OpenSpec.upto fnChainsSpec)

/-- 'laws.FnTens', WHERE WHAT IT READS IS OF BULK AT MOST 1048576: true; the input reads as it did. -/
def fnTensUptoRow : OpenClaim := { program := "ytkoojngonldcbaa", sum := "7558fc07769bbb78467bbe000efbc8cba5f8e45d3591cb42fd9009219f75c40d", func := "loop.example/g00951/laws.FnTens", spec := "fnTens", unfollowed := true, recurses := true, apart := false, narrowed := true }
def FnTensUptoSaid : Prop := fnTensUptoRow.holds Try.pinned (OpenSpec.upto fnTensSpec)

/-- 'laws.FnRough', WHERE WHAT IT READS IS OF BULK AT MOST 1048576: true; the input reads as it did. -/
def fnRoughUptoRow : OpenClaim := { program := "ytkoojngonldcbaa", sum := "7558fc07769bbb78467bbe000efbc8cba5f8e45d3591cb42fd9009219f75c40d", func := "loop.example/g00951/laws.FnRough", spec := "fnRough", unfollowed := true, recurses := true, apart := false, narrowed := true }
def FnRoughUptoSaid : Prop := fnRoughUptoRow.holds Try.pinned (OpenSpec.upto fnRoughSpec)

/-- 'laws.FnChainValues', WHERE WHAT IT READS IS OF BULK AT MOST 1048576: true; the input reads as it did. -/
def fnChainValuesUptoRow : OpenClaim := { program := "ytkoojngonldcbaa", sum := "7558fc07769bbb78467bbe000efbc8cba5f8e45d3591cb42fd9009219f75c40d", func := "loop.example/g00951/laws.FnChainValues", spec := "fnChainValues", unfollowed := true, recurses := true, apart := false, narrowed := true }
def FnChainValuesUptoSaid : Prop := fnChainValuesUptoRow.holds Try.pinned (OpenSpec.upto fnChainValuesSpec)

/-- 'laws.FnMoves', WHERE WHAT IT READS IS OF BULK AT MOST 1048576: true; the input reads as it did. -/
def fnMovesUptoRow : OpenClaim := { program := "ytkoojngonldcbaa", sum := "7558fc07769bbb78467bbe000efbc8cba5f8e45d3591cb42fd9009219f75c40d", func := "loop.example/g00951/laws.FnMoves", spec := "fnMoves", unfollowed := true, recurses := true, apart := false, narrowed := true }
def FnMovesUptoSaid : Prop := fnMovesUptoRow.holds Try.pinned (OpenSpec.upto fnMovesSpec)

/-- 'laws.FnSettings', WHERE WHAT IT READS IS OF BULK AT MOST 1048576: true; the input reads as it did. -/
def fnSettingsUptoRow : OpenClaim := { program := "ytkoojngonldcbaa", sum := "7558fc07769bbb78467bbe000efbc8cba5f8e45d3591cb42fd9009219f75c40d", func := "loop.example/g00951/laws.FnSettings", spec := "fnSettings", unfollowed := true, recurses := true, apart := false, narrowed := true }
def FnSettingsUptoSaid : Prop := fnSettingsUptoRow.holds Try.pinned (OpenSpec.upto fnSettingsSpec)

end Rows
end Go.Proofs.Ytkoojngonldcbaa
