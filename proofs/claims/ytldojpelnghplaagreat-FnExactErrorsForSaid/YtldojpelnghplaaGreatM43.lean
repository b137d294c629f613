/- DERIVED. Walks: how far slide and cursor go, the reference's. -/
import Derived.Test.YtldojpelnghplaaGreatM41
namespace Go.Proofs.YtldojpelnghplaaGreat
set_option linter.unusedVariables false
set_option linter.unusedSimpArgs false
open Go.RowKit
set_option maxRecDepth 100000

end Go.Proofs.YtldojpelnghplaaGreat
