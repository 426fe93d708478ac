import Derived.Test.YtfkpfhjfjnnbbaaDoorYi
import Derived.Test.YtfkpfhjfjnnbbaaDoorNe
/-! Law 5: what its statements share. -/
namespace Go.Proofs.YtfkpfhjfjnnbbaaDoor
open Go.Eng Go.Vx
set_option linter.unusedSimpArgs false
set_option linter.unusedVariables false
set_option maxRecDepth 100000
theorem t2 : decS 2 = [50] := by rw [decS_small (by decide)]; decide
end Go.Proofs.YtfkpfhjfjnnbbaaDoor
