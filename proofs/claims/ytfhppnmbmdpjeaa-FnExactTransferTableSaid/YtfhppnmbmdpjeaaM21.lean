/- DERIVED. Walks: rounding. -/
import Derived.Test.YtfhppnmbmdpjeaaM18
import Derived.Test.YtfhppnmbmdpjeaaBA
namespace Go.Proofs.Ytfhppnmbmdpjeaa
set_option linter.unusedVariables false
set_option linter.unusedSimpArgs false
open Go.RowKit
set_option maxRecDepth 100000

end Go.Proofs.Ytfhppnmbmdpjeaa
