import Derived.Test.YtdmdmdoeahhkiaaDoorD3
import Derived.Test.YtdmdmdoeahhkiaaDoorZq
import Derived.Test.YtdmdmdoeahhkiaaDoorFa
import Derived.Test.YtdmdmdoeahhkiaaDoorFb
import Derived.Test.YtdmdmdoeahhkiaaDoorT1
import Derived.Test.YtdmdmdoeahhkiaaDoorLa
import Derived.Test.YtdmdmdoeahhkiaaDoorN1
import Derived.Test.YtdmdmdoeahhkiaaDoorNe
namespace Go.Proofs.YtdmdmdoeahhkiaaDoor
open Go.Eng Go.Vx
set_option linter.unusedSimpArgs false
set_option linter.unusedVariables false
set_option maxRecDepth 100000
end Go.Proofs.YtdmdmdoeahhkiaaDoor

namespace Go.Proofs.YtdmdmdoeahhkiaaDoor
open Go.Eng Go.Vx
set_option linter.unusedSimpArgs false
set_option linter.unusedVariables false
set_option maxRecDepth 100000
end Go.Proofs.YtdmdmdoeahhkiaaDoor

namespace Go.Proofs.YtdmdmdoeahhkiaaDoor
open Go.Eng Go.Vx
set_option linter.unusedSimpArgs false
set_option linter.unusedVariables false
set_option maxRecDepth 100000
def rndX (L : List Bool) (n d p : Nat) : Int × Int × Nat × Bool :=
  let r := ratX L (n % d) d p
  (if r.2.1 = 0 then ((n / d + (if r.1 then 1 else 0) : Nat) : Int) else 0, r.2.1, r.2.2.1, r.2.2.2)
end Go.Proofs.YtdmdmdoeahhkiaaDoor

namespace Go.Proofs.YtdmdmdoeahhkiaaDoor
open Go.Eng Go.Vx
set_option linter.unusedSimpArgs false
set_option linter.unusedVariables false
set_option maxRecDepth 100000
def out10 (p : Nat) (r : Bool × Int × Nat × Bool) : V := .agg [.lit (.bool r.1), .lit (.int .i64 ((r.2.2.1 : Int) - (p : Int))), .lit (.int .i64 r.2.1)]
attribute [go_sem] out10
end Go.Proofs.YtdmdmdoeahhkiaaDoor

namespace Go.Proofs.YtdmdmdoeahhkiaaDoor
open Go.Eng Go.Vx
set_option linter.unusedSimpArgs false
set_option linter.unusedVariables false
set_option maxRecDepth 100000
def okR (L : List Bool) (p : Nat) (r : Bool × Int × Nat × Bool) : Prop := r = (false, 8, L.length, true) ∨ ∃ b e q, r = (b, e, q, false) ∧ e ≠ 8 ∧ p ≤ q ∧ q ≤ L.length
end Go.Proofs.YtdmdmdoeahhkiaaDoor

namespace Go.Proofs.YtdmdmdoeahhkiaaDoor
open Go.Eng Go.Vx
set_option linter.unusedSimpArgs false
set_option linter.unusedVariables false
set_option maxRecDepth 100000
end Go.Proofs.YtdmdmdoeahhkiaaDoor

namespace Go.Proofs.YtdmdmdoeahhkiaaDoor
open Go.Eng Go.Vx
set_option linter.unusedSimpArgs false
set_option linter.unusedVariables false
set_option maxRecDepth 100000
end Go.Proofs.YtdmdmdoeahhkiaaDoor

namespace Go.Proofs.YtdmdmdoeahhkiaaDoor
open Go.Eng Go.Vx
set_option linter.unusedSimpArgs false
set_option linter.unusedVariables false
set_option maxRecDepth 100000
end Go.Proofs.YtdmdmdoeahhkiaaDoor

namespace Go.Proofs.YtdmdmdoeahhkiaaDoor
open Go.Eng Go.Vx
set_option linter.unusedSimpArgs false
set_option linter.unusedVariables false
set_option maxRecDepth 100000
end Go.Proofs.YtdmdmdoeahhkiaaDoor

namespace Go.Proofs.YtdmdmdoeahhkiaaDoor
open Go.Eng Go.Vx
set_option linter.unusedSimpArgs false
set_option linter.unusedVariables false
set_option maxRecDepth 100000
end Go.Proofs.YtdmdmdoeahhkiaaDoor
