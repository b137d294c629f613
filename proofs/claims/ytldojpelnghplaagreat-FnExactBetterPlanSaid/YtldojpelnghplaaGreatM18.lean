/- DERIVED. Walks: figures that are limited, placed, listed; distances; the exponent of a transfer. -/
import Derived.Test.YtldojpelnghplaaGreatM17
import Derived.Test.YtldojpelnghplaaGreatM11
import Derived.Test.YtldojpelnghplaaGreatM13
import Derived.Test.YtldojpelnghplaaGreatPA
import Derived.Test.YtldojpelnghplaaGreatBA
namespace Go.Proofs.YtldojpelnghplaaGreat
set_option linter.unusedVariables false
set_option linter.unusedSimpArgs false
open Go.RowKit
set_option maxRecDepth 100000

end Go.Proofs.YtldojpelnghplaaGreat
