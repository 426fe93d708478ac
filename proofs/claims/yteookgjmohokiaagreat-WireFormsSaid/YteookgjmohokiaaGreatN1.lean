import Derived.Test.YteookgjmohokiaaGreatE6
import Derived.Laws.Externs
import Derived.Test.YteookgjmohokiaaGreatRa
/-! Calls that the model answers at once. -/
namespace Go.Eng
open Go.Vx
set_option linter.unusedSimpArgs false
set_option linter.unusedVariables false
/-- math/bits.Sub64. -/
def sub64E : Array Value → Sem Value := (Extern.MathBitsCarry.rows.getD 1 ("", fun _ => stuck "")).2
end Go.Eng

/-! Package nat: of words, compared, added. -/
namespace Go.Proofs.YteookgjmohokiaaGreat
open Go.Eng Go.Vx
set_option linter.unusedSimpArgs false
set_option linter.unusedVariables false
set_option maxRecDepth 100000
/-- A number's words. -/
def wg (n : Nat) : List Nat := dgB 18446744073709551616 n
def NV (n : Nat) : V := .agg [.row 1 ((nl (wg n)).map (ie .u64))]
attribute [go_sem] NV
end Go.Proofs.YteookgjmohokiaaGreat

/-! Package nat: sums. -/
namespace Go.Proofs.YteookgjmohokiaaGreat
open Go.Eng Go.Vx
set_option linter.unusedSimpArgs false
set_option linter.unusedVariables false
set_option maxRecDepth 100000
/-- Words written so far, the others 0. -/
def pad (L : List Nat) (k : Nat) : List Nat := L ++ List.replicate (k - L.length) 0
end Go.Proofs.YteookgjmohokiaaGreat

/-! Package nat: differences, products. -/
namespace Go.Proofs.YteookgjmohokiaaGreat
open Go.Eng Go.Vx
set_option linter.unusedSimpArgs false
set_option linter.unusedVariables false
set_option maxRecDepth 100000
end Go.Proofs.YteookgjmohokiaaGreat
