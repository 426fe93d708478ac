import Derived.Test.YtfkpfhjfjnnbbaaDoorN2
import Derived.Test.YtfkpfhjfjnnbbaaDoorD3
import Derived.Test.YtfkpfhjfjnnbbaaDoorRj
/-! Package nat: bits, powers. -/
namespace Go.Proofs.YtfkpfhjfjnnbbaaDoor
open Go.Eng Go.Vx
set_option linter.unusedSimpArgs false
set_option linter.unusedVariables false
set_option maxRecDepth 100000
/-- The loop's numbers: the base squared i times. -/
def pwI (a n : Nat) (z : Nat × Nat × Nat) : Prop := ∃ i, z.1 = a ^ 2 ^ i ∧ z.2.1 = a ^ (n % 2 ^ i) ∧ z.2.2 = n / 2 ^ i
end Go.Proofs.YtfkpfhjfjnnbbaaDoor
