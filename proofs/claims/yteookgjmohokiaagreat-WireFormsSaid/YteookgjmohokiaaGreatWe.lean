import Derived.Test.YteookgjmohokiaaGreatWd
/-! Laws of bits: what is read. -/
namespace Go.Proofs.YteookgjmohokiaaGreat
open Go.Eng Go.Vx
set_option linter.unusedSimpArgs false
set_option linter.unusedVariables false
set_option maxRecDepth 100000
end Go.Proofs.YteookgjmohokiaaGreat
