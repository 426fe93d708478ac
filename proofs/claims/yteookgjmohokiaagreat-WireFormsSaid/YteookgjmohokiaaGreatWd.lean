import Derived.Test.YteookgjmohokiaaGreatWc
/-! Laws of bits. -/
namespace Go.Proofs.YteookgjmohokiaaGreat
open Go.Eng Go.Vx
set_option linter.unusedSimpArgs false
set_option linter.unusedVariables false
set_option maxRecDepth 100000
@[go_sem] theorem pk_nil : pk [] = [] := (rfl)
end Go.Proofs.YteookgjmohokiaaGreat
