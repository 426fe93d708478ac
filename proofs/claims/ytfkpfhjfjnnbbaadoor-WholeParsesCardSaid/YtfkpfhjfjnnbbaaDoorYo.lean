import Derived.Test.YtfkpfhjfjnnbbaaDoorYl
/-! Law 5: the document's Bits and Gcd. -/
namespace Go.Proofs.YtfkpfhjfjnnbbaaDoor
open Go.Eng Go.Vx
set_option linter.unusedSimpArgs false
set_option linter.unusedVariables false
set_option maxRecDepth 100000
end Go.Proofs.YtfkpfhjfjnnbbaaDoor
