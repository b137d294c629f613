/- DERIVED. Walks: figures multiplied, divided, rounded. -/
import Derived.Test.YtfhppnmbmdpjeaaM21
import Derived.Test.YtfhppnmbmdpjeaaM19
namespace Go.Proofs.Ytfhppnmbmdpjeaa
set_option linter.unusedVariables false
set_option linter.unusedSimpArgs false
open Go.RowKit
set_option maxRecDepth 100000

theorem mul_fig {a c : Int} (h1 : 1000 ≤ a) (h2 : a ≤ 9999) (h3 : 1000 ≤ c) (h4 : c ≤ 9999) : 1000000 ≤ a * c ∧ a * c ≤ 99980001 := by
  have m1 := Int.mul_le_mul h1 h3 (by omega) (by omega)
  have m2 := Int.mul_le_mul h2 h4 (by omega) (by omega)
  omega

end Go.Proofs.Ytfhppnmbmdpjeaa
