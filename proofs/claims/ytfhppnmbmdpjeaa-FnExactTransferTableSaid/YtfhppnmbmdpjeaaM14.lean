/- DERIVED. Walks: the logarithm of a chain, the reference's; ChainLog. -/
import Derived.Test.YtfhppnmbmdpjeaaM13
namespace Go.Proofs.Ytfhppnmbmdpjeaa
set_option linter.unusedVariables false
set_option linter.unusedSimpArgs false
open Go.RowKit
set_option maxRecDepth 100000

end Go.Proofs.Ytfhppnmbmdpjeaa
