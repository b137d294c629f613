/- DERIVED. Walks: joined chains. -/
import Derived.Test.YtaciljlnnhfcjaaM3
import Derived.Test.YtaciljlnnhfcjaaBA
namespace Go.Proofs.Ytaciljlnnhfcjaa
set_option linter.unusedVariables false
set_option linter.unusedSimpArgs false
open Go.RowKit
set_option maxRecDepth 100000

end Go.Proofs.Ytaciljlnnhfcjaa
