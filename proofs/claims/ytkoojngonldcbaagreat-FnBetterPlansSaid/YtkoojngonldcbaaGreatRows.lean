/-
  No cell of these rows narrows 'for every input' (looked for: loops, veiled, ifaces, maps, wideKeys, modest, calm, conditions, laid).
  DERIVED. THE GIVEN ROWS OF THIS SEAT. 4 by the template 'for every input the law returns true; each argument reads behind the call as it read before'; 0 by the template 'total and deterministic' (their statements: YtkoojngonldcbaaGreatTotals.lean).
  GIVEN WITH THE SEED: the statements are not yours to turn. If you find one false, say at which input.
  Laid BY PROGRAM, IN A SANDBOX (cutbox-rows.mjs): the forced cells as the released guide's own fill.sh prints them over the translation e9cf5190aae8c035… (all of the seat's roots in one cut). By AI agents, Wed Nov 11 2026. No macro, syntax, notation, axiom, sorry.
-/
import Derived.Test.YtkoojngonldcbaaGreatChecked
import GoSem.Claim
import GoSem.ClaimJoined
import GoSem.ClaimMapViews
import Derived.JoinedTies
import Derived.KernelRfl
namespace Go.Proofs.YtkoojngonldcbaaGreat
/- THE CELL 'sum', in the pinned program and in every row, IS THE sha256 OF THE DUMP (.gsa) THAT YtkoojngonldcbaaGreatProg.lean LOADS. Nothing in Lean hashes anything: it is a label: what it is worth is what the hold of that sum in a sandbox is worth. -/
noncomputable def Tryz.pinned : Pinned := { name := "ytkoojngonldcbaagreat", sum := "e9cf5190aae8c035d359699b50de6f7772d5920e31a3ed20e7afc933d62025d7", checked := Tryz.checked }
namespace Rows
def none {H : Type} : Left H := { results := [], args := [] }

/-- 'laws.FnPlans': WHATEVER THE INPUT: true; the input reads as it did. -/
def fnPlansSpec : ChangeSpec := { name := "fnPlans", fn := fun _ => fun
  | [d] => { results := [.lit (.bool true)], args := [d] }
  | _ => none }
def fnPlansRow : OpenClaim := { program := "ytkoojngonldcbaagreat", sum := "e9cf5190aae8c035d359699b50de6f7772d5920e31a3ed20e7afc933d62025d7", func := "loop.example/g00951/laws.FnPlans", spec := "fnPlans", unfollowed := true, recurses := true, apart := false }
def FnPlansSaid : Prop := fnPlansRow.holds Tryz.pinned (OpenSpec.ofChange fnPlansSpec)

/-- ITS FALSE NEIGHBOUR: 'it returns false'. Refute it at one input. -/
def fnPlansWrong : ChangeSpec := { name := "fnPlans", fn := fun _ => fun
  | [d] => { results := [.lit (.bool false)], args := [d] }
  | _ => none }
def FnPlansWrongFalsely : Prop := fnPlansRow.holds Tryz.pinned (OpenSpec.ofChange fnPlansWrong)

/-- 'laws.FnResults': WHATEVER THE INPUT: true; the input reads as it did. -/
def fnResultsSpec : ChangeSpec := { name := "fnResults", fn := fun _ => fun
  | [d] => { results := [.lit (.bool true)], args := [d] }
  | _ => none }
def fnResultsRow : OpenClaim := { program := "ytkoojngonldcbaagreat", sum := "e9cf5190aae8c035d359699b50de6f7772d5920e31a3ed20e7afc933d62025d7", func := "loop.example/g00951/laws.FnResults", spec := "fnResults", unfollowed := true, recurses := true, apart := false }
def FnResultsSaid : Prop := fnResultsRow.holds Tryz.pinned (OpenSpec.ofChange fnResultsSpec)

/-- ITS FALSE NEIGHBOUR: 'it returns false'. Refute it at one input. -/
def fnResultsWrong : ChangeSpec := { name := "fnResults", fn := fun _ => fun
  | [d] => { results := [.lit (.bool false)], args := [d] }
  | _ => none }
def FnResultsWrongFalsely : Prop := fnResultsRow.holds Tryz.pinned (OpenSpec.ofChange fnResultsWrong)

/-- 'laws.FnBetterPlans': WHATEVER THE INPUT: true; the input reads as it did. -/
def fnBetterPlansSpec : ChangeSpec := { name := "fnBetterPlans", fn := fun _ => fun
  | [d] => { results := [.lit (.bool true)], args := [d] }
  | _ => none }
def fnBetterPlansRow : OpenClaim := { program := "ytkoojngonldcbaagreat", sum := "e9cf5190aae8c035d359699b50de6f7772d5920e31a3ed20e7afc933d62025d7", func := "loop.example/g00951/laws.FnBetterPlans", spec := "fnBetterPlans", unfollowed := true, recurses := true, apart := false }
def FnBetterPlansSaid : Prop := fnBetterPlansRow.holds Tryz.pinned (OpenSpec.ofChange fnBetterPlansSpec)

/-- ITS FALSE NEIGHBOUR: 'it returns false'. Refute it at one input. -/
def fnBetterPlansWrong : ChangeSpec := { name := "fnBetterPlans", fn := fun _ => fun
  | [d] => { results := [.lit (.bool false)], args := [d] }
  | _ => none }
def FnBetterPlansWrongFalsely : Prop := fnBetterPlansRow.holds Tryz.pinned (OpenSpec.ofChange fnBetterPlansWrong)

/-- 'laws.FnPlanBounds': WHATEVER THE INPUT: true; the input reads as it did. -/
def fnPlanBoundsSpec : ChangeSpec := { name := "fnPlanBounds", fn := fun _ => fun
  | [d] => { results := [.lit (.bool true)], args := [d] }
  | _ => none }
def fnPlanBoundsRow : OpenClaim := { program := "ytkoojngonldcbaagreat", sum := "e9cf5190aae8c035d359699b50de6f7772d5920e31a3ed20e7afc933d62025d7", func := "loop.example/g00951/laws.FnPlanBounds", spec := "fnPlanBounds", unfollowed := true, recurses := true, apart := false }
def FnPlanBoundsSaid : Prop := fnPlanBoundsRow.holds Tryz.pinned (OpenSpec.ofChange fnPlanBoundsSpec)

/-- ITS FALSE NEIGHBOUR: 'it returns false'. Refute it at one input. -/
def fnPlanBoundsWrong : ChangeSpec := { name := "fnPlanBounds", fn := fun _ => fun
  | [d] => { results := [.lit (.bool false)], args := [d] }
  | _ => none }
def FnPlanBoundsWrongFalsely : Prop := fnPlanBoundsRow.holds Tryz.pinned (OpenSpec.ofChange fnPlanBoundsWrong)

/- THE SECOND FORM. 'bulk': how many values and letters a reading holds, each counted each time it is reached (what is shared counts as often as it is met; a slice's spare places count too). A statement '..UptoSaid' is the law's where the arguments, and the package variables that the reading takes, are together of bulk at most 1048576: NARROWER than '..Said'. Prove '..Said' where nothing that the law and all that it calls make is longer than what came in: it says more and counts as full. Else prove '..UptoSaid'. A law counts once. -/
mutual
def uptoBulk {H : Type} : DataW H → Nat
  | .lit (.string bytes) => bytes.length + 1
  | .lit _ => 1
  | .nil => 1
  | .ptr d => uptoBulk d + 1
  | .slice elems spare => uptoBulkAll elems + uptoBulkAll spare + 1
  | .agg parts => uptoBulkAll parts + 1
  | .iface _ d => uptoBulk d + 1
  | .map entries => uptoBulkEntries entries + 1
  | .held _ => 1
def uptoBulkAll {H : Type} : List (DataW H) → Nat
  | [] => 0
  | d :: r => uptoBulk d + uptoBulkAll r
def uptoBulkEntries {H : Type} : List (Lit × DataW H) → Nat
  | [] => 0
  | x :: r => uptoBulkEntry x + uptoBulkEntries r
def uptoBulkEntry {H : Type} : Lit × DataW H → Nat
  | (.string bytes, d) => bytes.length + uptoBulk d + 1
  | (_, d) => uptoBulk d + 1
 end
def uptoSmall : (H : Type) → List (DataW H) → Bool := fun _ ds => decide (uptoBulkAll ds ≤ 1048576)
def OpenSpec.upto (s : _root_.Go.ChangeSpec) : _root_.Go.OpenSpec := { _root_.Go.OpenSpec.ofChange s with cond := some uptoSmall }

/-- 'laws.FnPlans', WHERE WHAT IT READS IS OF BULK AT MOST 1048576: true; the input reads as it did. -/
def fnPlansUptoRow : OpenClaim := { program := "ytkoojngonldcbaagreat", sum := "e9cf5190aae8c035d359699b50de6f7772d5920e31a3ed20e7afc933d62025d7", func := "loop.example/g00951/laws.FnPlans", spec := "fnPlans", unfollowed := true, recurses := true, apart := false, narrowed := true }
def FnPlansUptoSaid : Prop := fnPlansUptoRow.holds Tryz.pinned (OpenSpec.upto fnPlansSpec)

/-- 'laws.FnResults', WHERE WHAT IT READS IS OF BULK AT MOST 1048576: true; the input reads as it did. -/
def fnResultsUptoRow : OpenClaim := { program := "ytkoojngonldcbaagreat", sum := "e9cf5190aae8c035d359699b50de6f7772d5920e31a3ed20e7afc933d62025d7", func := "loop.example/g00951/laws.FnResults", spec := "fnResults", unfollowed := true, recurses := true, apart := false, narrowed := true }
def FnResultsUptoSaid : Prop := fnResultsUptoRow.holds Tryz.pinned (OpenSpec.upto fnResultsSpec)

/-- 'laws.FnBetterPlans', WHERE WHAT IT READS IS OF BULK AT MOST 1048576: true; the input reads as it did. -/
def fnBetterPlansUptoRow : OpenClaim := { program := "ytkoojngonldcbaagreat", sum := "e9cf5190aae8c035d359699b50de6f7772d5920e31a3ed20e7afc933d62025d7", func := "loop.example/g00951/laws.FnBetterPlans", spec := "fnBetterPlans", unfollowed := true, recurses := true, apart := false, narrowed := true }
def FnBetterPlansUptoSaid : Prop := fnBetterPlansUptoRow.holds Tryz.pinned (OpenSpec.upto fnBetterPlansSpec)

/-- 'laws.FnPlanBounds', WHERE WHAT IT READS IS OF BULK AT MOST 1048576: true; the input reads as it did. -/
def fnPlanBoundsUptoRow : OpenClaim := { program := "ytkoojngonldcbaagreat", sum := "e9cf5190aae8c035d359699b50de6f7772d5920e31a3ed20e7afc933d62025d7", func := "loop.example/g00951/laws.FnPlanBounds", spec := "fnPlanBounds", unfollowed := true, recurses := true, apart := false, narrowed := true }
def FnPlanBoundsUptoSaid : Prop := fnPlanBoundsUptoRow.holds Tryz.pinned (OpenSpec.upto fnPlanBoundsSpec)

end Rows
end Go.Proofs.YtkoojngonldcbaaGreat
