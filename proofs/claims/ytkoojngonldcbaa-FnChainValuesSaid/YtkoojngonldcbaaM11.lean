/- DERIVED. Walks: the order of a scale. -/
import Derived.Test.YtkoojngonldcbaaBA
namespace Go.Proofs.Ytkoojngonldcbaa
set_option linter.unusedVariables false
set_option linter.unusedSimpArgs false
open Go.RowKit
set_option maxRecDepth 100000

end Go.Proofs.Ytkoojngonldcbaa
