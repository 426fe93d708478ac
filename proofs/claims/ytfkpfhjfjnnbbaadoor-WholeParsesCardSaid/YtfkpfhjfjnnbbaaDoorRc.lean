import Derived.Test.YtfkpfhjfjnnbbaaDoorRb
import Derived.Test.YtfkpfhjfjnnbbaaDoorD1
/-! Package tallymarkref05: of words, quotients, powers. -/
namespace Go.Proofs.YtfkpfhjfjnnbbaaDoor
open Go.Eng Go.Vx
set_option linter.unusedSimpArgs false
set_option linter.unusedVariables false
set_option maxRecDepth 100000
def wv (W : List Nat) : Nat := valB 18446744073709551616 W
end Go.Proofs.YtfkpfhjfjnnbbaaDoor
