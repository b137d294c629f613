/- DERIVED. Walks: spans. -/
import Derived.Test.YtfhppnmbmdpjeaaM30
import Derived.Test.YtfhppnmbmdpjeaaM14
namespace Go.Proofs.Ytfhppnmbmdpjeaa
set_option linter.unusedVariables false
set_option linter.unusedSimpArgs false
open Go.RowKit
set_option maxRecDepth 100000

/-- The answer of a search. -/
def SearchI (p : Int → Prop) (w : World) (e : Ending) (w' : World) : Prop := ∃ i : Int, e = .returned (.int .i64 i) ∧ 0 ≤ i ∧ i ≤ 9000 ∧ (i = 9000 ∨ p i) ∧ (i = 0 ∨ ¬ p (i - 1)) ∧ Later w w'
def PropIs (p : Prop) : Bool → Prop
  | true => p
  | false => ¬ p
theorem of_decide_eq {p : Prop} [Decidable p] {b : Bool} (h : decide p = b) : PropIs p b := by
  cases b
  · simpa [PropIs] using h
  · simpa [PropIs] using h

def belowR (u : Int) : Fig := if isFig (belowF u) then belowF u else ⟨0, 0⟩

end Go.Proofs.Ytfhppnmbmdpjeaa
