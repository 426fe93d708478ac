import Derived.Test.YtfkpfhjfjnnbbaaDoorYj
/-! Law 5: what came in. -/
namespace Go.Proofs.YtfkpfhjfjnnbbaaDoor
open Go.Eng Go.Vx
set_option linter.unusedSimpArgs false
set_option linter.unusedVariables false
set_option maxRecDepth 100000
theorem wmul_len (a b : Nat) : (wg (a * b)).length ≤ (wg a).length + (wg b).length := dgB_len_mul (B := 18446744073709551616) (by decide) a b
end Go.Proofs.YtfkpfhjfjnnbbaaDoor
