import Derived.Test.YteookgjmohokiaaGreatWi
import Derived.Test.YteookgjmohokiaaGreatE7
/-! Codes, read. -/
namespace Go.Proofs.YteookgjmohokiaaGreat
open Go.Eng Go.Vx
set_option linter.unusedSimpArgs false
set_option linter.unusedVariables false
set_option maxRecDepth 100000
end Go.Proofs.YteookgjmohokiaaGreat
