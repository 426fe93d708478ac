import Derived.Test.YtpkfddfkacijoaaDoorE6
import Derived.Test.YtpkfddfkacijoaaDoorD3
import Derived.Test.YtpkfddfkacijoaaDoorZq
import Derived.Test.YtpkfddfkacijoaaDoorFa
import Derived.Test.YtpkfddfkacijoaaDoorRa
import Derived.Test.YtpkfddfkacijoaaDoorD1
import Derived.Test.YtpkfddfkacijoaaDoorYh
namespace Go.Vx
open Go.Eng
set_option linter.unusedSimpArgs false
set_option linter.unusedVariables false
section
variable {P : Program}
def FnR (P : Program) (f : FuncId) (vs : List V) (σ : St) {X : Type} (R : X → Prop) (r : X → V) (s : X → St) : Prop := Fn P f vs σ fun u' s' => ∃ x, R x ∧ u' = r x ∧ s' = s x
end
@[go_sem] theorem pnO_cells {l : List V} : pnO (.cells l) = (pnV.pnL l = true) := (rfl)
end Go.Vx

namespace Go.Proofs.YtpkfddfkacijoaaDoor
open Go.Eng Go.Vx
set_option linter.unusedSimpArgs false
set_option linter.unusedVariables false
set_option maxRecDepth 100000
end Go.Proofs.YtpkfddfkacijoaaDoor

namespace Go.Proofs.YtpkfddfkacijoaaDoor
open Go.Eng Go.Vx
set_option linter.unusedSimpArgs false
set_option linter.unusedVariables false
set_option maxRecDepth 100000
end Go.Proofs.YtpkfddfkacijoaaDoor

namespace Go.Proofs.YtpkfddfkacijoaaDoor
open Go.Eng Go.Vx
set_option linter.unusedSimpArgs false
set_option linter.unusedVariables false
set_option maxRecDepth 100000
def rndX (L : List Bool) (n d p : Nat) : Int × Int × Nat × Bool :=
  let r := ratX L (n % d) d p
  (if r.2.1 = 0 then ((n / d + (if r.1 then 1 else 0) : Nat) : Int) else 0, r.2.1, r.2.2.1, r.2.2.2)
end Go.Proofs.YtpkfddfkacijoaaDoor

namespace Go.Proofs.YtpkfddfkacijoaaDoor
open Go.Eng Go.Vx
set_option linter.unusedSimpArgs false
set_option linter.unusedVariables false
set_option maxRecDepth 100000
def dg (n : Nat) : List Nat := dgB 10000 n
def DV (n : Nat) : V := .row 1 ((nl (dg n)).map (ie .i64))
attribute [go_sem] DV
end Go.Proofs.YtpkfddfkacijoaaDoor

namespace Go.Proofs.YtpkfddfkacijoaaDoor
open Go.Eng Go.Vx
set_option linter.unusedSimpArgs false
set_option linter.unusedVariables false
set_option maxRecDepth 100000
def wv (W : List Nat) : Nat := valB 18446744073709551616 W
end Go.Proofs.YtpkfddfkacijoaaDoor

namespace Go.Proofs.YtpkfddfkacijoaaDoor
open Go.Eng Go.Vx
set_option linter.unusedSimpArgs false
set_option linter.unusedVariables false
set_option maxRecDepth 100000
end Go.Proofs.YtpkfddfkacijoaaDoor

namespace Go.Proofs.YtpkfddfkacijoaaDoor
open Go.Eng Go.Vx
set_option linter.unusedSimpArgs false
set_option linter.unusedVariables false
set_option maxRecDepth 100000
end Go.Proofs.YtpkfddfkacijoaaDoor

namespace Go.Proofs.YtpkfddfkacijoaaDoor
open Go.Eng Go.Vx
set_option linter.unusedSimpArgs false
set_option linter.unusedVariables false
set_option maxRecDepth 100000
end Go.Proofs.YtpkfddfkacijoaaDoor
