import Derived.Test.YtfkpfhjfjnnbbaaDoorYh
import Derived.Test.YtfkpfhjfjnnbbaaDoorRc
/-! The document's texts of numbers; is a number the document's? -/
namespace Go.Proofs.YtfkpfhjfjnnbbaaDoor
open Go.Eng Go.Vx
set_option linter.unusedSimpArgs false
set_option linter.unusedVariables false
set_option maxRecDepth 100000
end Go.Proofs.YtfkpfhjfjnnbbaaDoor
