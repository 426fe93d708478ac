import Derived.Test.YthoknpbjoeopcaaGreatDoorYh
import Derived.Test.YthoknpbjoeopcaaGreatDoorRc
/-! The document's texts of numbers; is a number the document's? -/
namespace Go.Proofs.YthoknpbjoeopcaaGreatDoor
open Go.Eng Go.Vx
set_option linter.unusedSimpArgs false
set_option linter.unusedVariables false
set_option maxRecDepth 100000
end Go.Proofs.YthoknpbjoeopcaaGreatDoor
