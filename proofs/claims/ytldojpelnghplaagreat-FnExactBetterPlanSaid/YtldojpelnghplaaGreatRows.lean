/-
  No cell of these rows narrows 'for every input' (looked for: loops, veiled, ifaces, maps, wideKeys, modest, calm, conditions, laid).
  DERIVED. THE GIVEN ROWS OF THIS SEAT. 5 by the template 'for every input the law returns true; each argument reads behind the call as it read before'; 0 by the template 'total and deterministic' (their statements: YtldojpelnghplaaGreatTotals.lean).
  GIVEN WITH THE SEED: the statements are not yours to turn. If you find one false, say at which input.
  Laid BY PROGRAM, IN A SANDBOX (cutbox-rows.mjs): the forced cells as the released guide's own fill.sh prints them over the translation 8ac3a5b5cde6c30b… (all of the seat's roots in one cut). By AI agents, Wed Nov 11 2026. No macro, syntax, notation, axiom, sorry.
-/
import Derived.Test.YtldojpelnghplaaGreatChecked
import GoSem.Claim
import GoSem.ClaimJoined
import GoSem.ClaimMapViews
import Derived.JoinedTies
import Derived.KernelRfl
namespace Go.Proofs.YtldojpelnghplaaGreat
/- THE CELL 'sum', in the pinned program and in every row, IS THE sha256 OF THE DUMP (.gsa) THAT YtldojpelnghplaaGreatProg.lean LOADS. Nothing in Lean hashes anything: it is a label: what it is worth is what the hold of that sum in a sandbox is worth. -/
noncomputable def Tryz.pinned : Pinned := { name := "ytldojpelnghplaagreat", sum := "8ac3a5b5cde6c30bccf9812de71cc435230906aad702356a4dd69c16bac3fc2b", checked := Tryz.checked }
namespace Rows
def none {H : Type} : Left H := { results := [], args := [] }

/-- 'laws.FnExactBetterPlan': WHATEVER THE INPUT: true; the input reads as it did. -/
def fnExactBetterPlanSpec : ChangeSpec := { name := "fnExactBetterPlan", fn := fun _ => fun
  | [d1, d2, d3] => { results := [.lit (.bool true)], args := [d1, d2, d3] }
  | _ => none }
def fnExactBetterPlanRow : OpenClaim := { program := "ytldojpelnghplaagreat", sum := "8ac3a5b5cde6c30bccf9812de71cc435230906aad702356a4dd69c16bac3fc2b", func := "loop.example/g00951/laws.FnExactBetterPlan", spec := "fnExactBetterPlan", unfollowed := true, recurses := true, apart := false }
def FnExactBetterPlanSaid : Prop := fnExactBetterPlanRow.holds Tryz.pinned (OpenSpec.ofChange fnExactBetterPlanSpec)

/-- ITS FALSE NEIGHBOUR: 'it returns false'. Refute it at one input. -/
def fnExactBetterPlanWrong : ChangeSpec := { name := "fnExactBetterPlan", fn := fun _ => fun
  | [d1, d2, d3] => { results := [.lit (.bool false)], args := [d1, d2, d3] }
  | _ => none }
def FnExactBetterPlanWrongFalsely : Prop := fnExactBetterPlanRow.holds Tryz.pinned (OpenSpec.ofChange fnExactBetterPlanWrong)

/-- 'laws.FnExactPlanSpan': WHATEVER THE INPUT: true; the input reads as it did. -/
def fnExactPlanSpanSpec : ChangeSpec := { name := "fnExactPlanSpan", fn := fun _ => fun
  | [d1, d2, d3] => { results := [.lit (.bool true)], args := [d1, d2, d3] }
  | _ => none }
def fnExactPlanSpanRow : OpenClaim := { program := "ytldojpelnghplaagreat", sum := "8ac3a5b5cde6c30bccf9812de71cc435230906aad702356a4dd69c16bac3fc2b", func := "loop.example/g00951/laws.FnExactPlanSpan", spec := "fnExactPlanSpan", unfollowed := true, recurses := true, apart := false }
def FnExactPlanSpanSaid : Prop := fnExactPlanSpanRow.holds Tryz.pinned (OpenSpec.ofChange fnExactPlanSpanSpec)

/-- ITS FALSE NEIGHBOUR: 'it returns false'. Refute it at one input. -/
def fnExactPlanSpanWrong : ChangeSpec := { name := "fnExactPlanSpan", fn := fun _ => fun
  | [d1, d2, d3] => { results := [.lit (.bool false)], args := [d1, d2, d3] }
  | _ => none }
def FnExactPlanSpanWrongFalsely : Prop := fnExactPlanSpanRow.holds Tryz.pinned (OpenSpec.ofChange fnExactPlanSpanWrong)

/-- 'laws.FnExactIsWithin': WHATEVER THE INPUT: true; the input reads as it did. -/
def fnExactIsWithinSpec : ChangeSpec := { name := "fnExactIsWithin", fn := fun _ => fun
  | [d1, d2, d3, d4] => { results := [.lit (.bool true)], args := [d1, d2, d3, d4] }
  | _ => none }
def fnExactIsWithinRow : OpenClaim := { program := "ytldojpelnghplaagreat", sum := "8ac3a5b5cde6c30bccf9812de71cc435230906aad702356a4dd69c16bac3fc2b", func := "loop.example/g00951/laws.FnExactIsWithin", spec := "fnExactIsWithin", unfollowed := true, recurses := true, apart := false }
def FnExactIsWithinSaid : Prop := fnExactIsWithinRow.holds Tryz.pinned (OpenSpec.ofChange fnExactIsWithinSpec)

/-- ITS FALSE NEIGHBOUR: 'it returns false'. Refute it at one input. -/
def fnExactIsWithinWrong : ChangeSpec := { name := "fnExactIsWithin", fn := fun _ => fun
  | [d1, d2, d3, d4] => { results := [.lit (.bool false)], args := [d1, d2, d3, d4] }
  | _ => none }
def FnExactIsWithinWrongFalsely : Prop := fnExactIsWithinRow.holds Tryz.pinned (OpenSpec.ofChange fnExactIsWithinWrong)

/-- 'laws.FnExactPlanBound': WHATEVER THE INPUT: true; the input reads as it did. -/
def fnExactPlanBoundSpec : ChangeSpec := { name := "fnExactPlanBound", fn := fun _ => fun
  | [d1, d2, d3] => { results := [.lit (.bool true)], args := [d1, d2, d3] }
  | _ => none }
def fnExactPlanBoundRow : OpenClaim := { program := "ytldojpelnghplaagreat", sum := "8ac3a5b5cde6c30bccf9812de71cc435230906aad702356a4dd69c16bac3fc2b", func := "loop.example/g00951/laws.FnExactPlanBound", spec := "fnExactPlanBound", unfollowed := true, recurses := true, apart := false }
def FnExactPlanBoundSaid : Prop := fnExactPlanBoundRow.holds Tryz.pinned (OpenSpec.ofChange fnExactPlanBoundSpec)

/-- ITS FALSE NEIGHBOUR: 'it returns false'. Refute it at one input. -/
def fnExactPlanBoundWrong : ChangeSpec := { name := "fnExactPlanBound", fn := fun _ => fun
  | [d1, d2, d3] => { results := [.lit (.bool false)], args := [d1, d2, d3] }
  | _ => none }
def FnExactPlanBoundWrongFalsely : Prop := fnExactPlanBoundRow.holds Tryz.pinned (OpenSpec.ofChange fnExactPlanBoundWrong)

/-- 'laws.FnExactErrorsFor': WHATEVER THE INPUT: true; the input reads as it did. -/
def fnExactErrorsForSpec : ChangeSpec := { name := "fnExactErrorsFor", fn := fun _ => fun
  | [d1, d2, d3, d4] => { results := [.lit (.bool true)], args := [d1, d2, d3, d4] }
  | _ => none }
def fnExactErrorsForRow : OpenClaim := { program := "ytldojpelnghplaagreat", sum := "8ac3a5b5cde6c30bccf9812de71cc435230906aad702356a4dd69c16bac3fc2b", func := "loop.example/g00951/laws.FnExactErrorsFor", spec := "fnExactErrorsFor", unfollowed := true, recurses := true, apart := false }
def FnExactErrorsForSaid : Prop := fnExactErrorsForRow.holds Tryz.pinned (OpenSpec.ofChange fnExactErrorsForSpec)

/-- ITS FALSE NEIGHBOUR: 'it returns false'. Refute it at one input. -/
def fnExactErrorsForWrong : ChangeSpec := { name := "fnExactErrorsFor", fn := fun _ => fun
  | [d1, d2, d3, d4] => { results := [.lit (.bool false)], args := [d1, d2, d3, d4] }
  | _ => none }
def FnExactErrorsForWrongFalsely : Prop := fnExactErrorsForRow.holds Tryz.pinned (OpenSpec.ofChange fnExactErrorsForWrong)

/- THE SECOND FORM. 'bulk': how many values and letters a reading holds, each counted each time it is reached (what is shared counts as often as it is met; a slice's spare places count too). A statement '..UptoSaid' is the law's where the arguments, and the package variables that the reading takes, are together of bulk at most 1048576: NARROWER than '..Said'. Prove '..Said' where nothing that the law and all that it calls make is longer than what came in: it says more and counts as full. Else prove '..UptoSaid'. A law counts once. -/
mutual
def uptoBulk {H : Type} : DataW H → Nat
  | .lit (.string bytes) => bytes.length + 1
  | .lit _ => 1
  | .nil => 1
  | .ptr d => uptoBulk d + 1
  | .slice elems spare => uptoBulkAll elems + uptoBulkAll spare + 1
  | .agg parts => uptoBulkAll parts + 1
  | .iface _ d => uptoBulk d + 1
  | .map entries => uptoBulkEntries entries + 1
  | .held _ => 1
def uptoBulkAll {H : Type} : List (DataW H) → Nat
  | [] => 0
  | d :: r => uptoBulk d + uptoBulkAll r
def uptoBulkEntries {H : Type} : List (Lit × DataW H) → Nat
  | [] => 0
  | x :: r => uptoBulkEntry x + uptoBulkEntries r
def uptoBulkEntry {H : Type} : Lit × DataW H → Nat
  | (.string bytes, d) => bytes.length + uptoBulk d + 1
  | (_, d) => uptoBulk d + 1
 end
def uptoSmall : (H : Type) → List (DataW H) → Bool := fun _ ds => decide (uptoBulkAll ds ≤ 1048576)
def OpenSpec.upto (s : _root_.Go.ChangeSpec) : _root_.Go.OpenSpec := { _root_.Go.OpenSpec.ofChange s with cond := some uptoSmall }

/-- 'laws.FnExactBetterPlan', WHERE WHAT IT READS IS OF BULK AT MOST 1048576: true; the input reads as it did. -/
def fnExactBetterPlanUptoRow : OpenClaim := { program := "ytldojpelnghplaagreat", sum := "8ac3a5b5cde6c30bccf9812de71cc435230906aad702356a4dd69c16bac3fc2b", func := "loop.example/g00951/laws.FnExactBetterPlan", spec := "fnExactBetterPlan", unfollowed := true, recurses := true, apart := false, narrowed := true }
def FnExactBetterPlanUptoSaid : Prop := fnExactBetterPlanUptoRow.holds Tryz.pinned (OpenSpec.upto fnExactBetterPlanSpec)

/-- 'laws.FnExactPlanSpan', WHERE WHAT IT READS IS OF BULK AT MOST 1048576: true; the input reads as it did. -/
def fnExactPlanSpanUptoRow : OpenClaim := { program := "ytldojpelnghplaagreat", sum := "8ac3a5b5cde6c30bccf9812de71cc435230906aad702356a4dd69c16bac3fc2b", func := "loop.example/g00951/laws.FnExactPlanSpan", spec := "fnExactPlanSpan", unfollowed := true, recurses := true, apart := false, narrowed := true }
def FnExactPlanSpanUptoSaid : Prop := fnExactPlanSpanUptoRow.holds Tryz.pinned (OpenSpec.upto fnExactPlanSpanSpec)

/-- 'laws.FnExactIsWithin', WHERE WHAT IT READS IS OF BULK AT MOST 1048576: true; the input reads as it did. -/
def fnExactIsWithinUptoRow : OpenClaim := { program := "ytldojpelnghplaagreat", sum := "8ac3a5b5cde6c30bccf9812de71cc435230906aad702356a4dd69c16bac3fc2b", func := "loop.example/g00951/laws.FnExactIsWithin", spec := "fnExactIsWithin", unfollowed := true, recurses := true, apart := false, narrowed := true }
def FnExactIsWithinUptoSaid : Prop := fnExactIsWithinUptoRow.holds Tryz.pinned (OpenSpec.upto fnExactIsWithinSpec)

/-- 'laws.FnExactPlanBound', WHERE WHAT IT READS IS OF BULK AT MOST 1048576: true; the input reads as it did. -/
def fnExactPlanBoundUptoRow : OpenClaim := { program := "ytldojpelnghplaagreat", sum := "8ac3a5b5cde6c30bccf9812de71cc435230906aad702356a4dd69c16bac3fc2b", func := "loop.example/g00951/laws.FnExactPlanBound", spec := "fnExactPlanBound", unfollowed := true, recurses := true, apart := false, narrowed := true }
def FnExactPlanBoundUptoSaid : Prop := fnExactPlanBoundUptoRow.holds Tryz.pinned (OpenSpec.upto fnExactPlanBoundSpec)

/-- 'laws.FnExactErrorsFor', WHERE WHAT IT READS IS OF BULK AT MOST 1048576: true; the input reads as it did. -/
def fnExactErrorsForUptoRow : OpenClaim := { program := "ytldojpelnghplaagreat", sum := "8ac3a5b5cde6c30bccf9812de71cc435230906aad702356a4dd69c16bac3fc2b", func := "loop.example/g00951/laws.FnExactErrorsFor", spec := "fnExactErrorsFor", unfollowed := true, recurses := true, apart := false, narrowed := true }
def FnExactErrorsForUptoSaid : Prop := fnExactErrorsForUptoRow.holds Tryz.pinned (OpenSpec.upto fnExactErrorsForSpec)

end Rows
end Go.Proofs.YtldojpelnghplaaGreat
