import Derived.Test.YteookgjmohokiaaGreatWn
import Derived.Test.YteookgjmohokiaaGreatE8
import Derived.Test.YteookgjmohokiaaGreatE6
import Derived.Test.YteookgjmohokiaaGreatLb
import Derived.Test.YteookgjmohokiaaGreatFa
import Derived.Test.YteookgjmohokiaaGreatD2
import Derived.Test.YteookgjmohokiaaGreatD1
import Derived.Test.YteookgjmohokiaaGreatSa
namespace Go.Proofs.YteookgjmohokiaaGreat
open Go.Eng Go.Vx
set_option linter.unusedSimpArgs false
set_option linter.unusedVariables false
set_option maxRecDepth 100000
end Go.Proofs.YteookgjmohokiaaGreat

namespace Go.Vx
open Go.Eng
set_option linter.unusedSimpArgs false
set_option linter.unusedVariables false
section
variable {P : Program}
def FnR (P : Program) (f : FuncId) (vs : List V) (σ : St) {X : Type} (R : X → Prop) (r : X → V) (s : X → St) : Prop := Fn P f vs σ fun u' s' => ∃ x, R x ∧ u' = r x ∧ s' = s x
end
end Go.Vx

namespace Go.Proofs.YteookgjmohokiaaGreat
open Go.Eng Go.Vx
set_option linter.unusedSimpArgs false
set_option linter.unusedVariables false
set_option maxRecDepth 100000
end Go.Proofs.YteookgjmohokiaaGreat

namespace Go.Proofs.YteookgjmohokiaaGreat
open Go.Eng Go.Vx
set_option linter.unusedSimpArgs false
set_option linter.unusedVariables false
set_option maxRecDepth 100000
def xl (N : Nat) : Int := ((N * lgN (max 1 N) : Nat) : Int)
end Go.Proofs.YteookgjmohokiaaGreat

namespace Go.Proofs.YteookgjmohokiaaGreat
open Go.Eng Go.Vx
set_option linter.unusedSimpArgs false
set_option linter.unusedVariables false
set_option maxRecDepth 100000
end Go.Proofs.YteookgjmohokiaaGreat

namespace Go.Proofs.YteookgjmohokiaaGreat
open Go.Eng Go.Vx
set_option linter.unusedSimpArgs false
set_option linter.unusedVariables false
set_option maxRecDepth 100000
end Go.Proofs.YteookgjmohokiaaGreat

namespace Go.Proofs.YteookgjmohokiaaGreat
set_option linter.unusedSimpArgs false
set_option linter.unusedVariables false
structure PB (P : SP) : Prop where
  m1 : 1 ≤ P.m
  m2 : P.m ≤ 65535
  d1 : 1 ≤ P.d
  d2 : P.d ≤ 15
  s1 : 1 ≤ P.s
  s2 : P.s ≤ 8
def COk (P : SP) (c : Cell) : Prop := c.1 ≤ P.m ∧ c.2 ≤ P.d ∧ (c.1 = 0 → c.2 = 0)
structure SOk (P : SP) (st : SS) : Prop where
  c : ∀ c ∈ st.1, COk P c
  s1 : 1 ≤ st.2.1
  s2 : st.2.1 ≤ P.s
  f : st.2.2 = true → st.2.1 = P.s
def need (P : SP) (s m : Nat) : Nat := (P.s - s) * (P.d + 2) + (P.d - m) + 1
end Go.Proofs.YteookgjmohokiaaGreat

namespace Go.Proofs.YteookgjmohokiaaGreat
open Go.Eng Go.Vx
set_option linter.unusedSimpArgs false
set_option linter.unusedVariables false
set_option maxRecDepth 100000
def rndN (L : List Bool) (n d p : Nat) : Nat × Int × Nat × Bool :=
  (if (ratX L (n % d) d p).2.1 = 0 then n / d + (if (ratX L (n % d) d p).1 then 1 else 0) else 0, (ratX L (n % d) d p).2.1, (ratX L (n % d) d p).2.2.1, (ratX L (n % d) d p).2.2.2)
def okN (L : List Bool) (p : Nat) (r : Nat × Int × Nat × Bool) : Prop := r = (0, 8, L.length, true) ∨ ∃ n e q, r = (n, e, q, false) ∧ e ≠ 8 ∧ p ≤ q ∧ q ≤ L.length
end Go.Proofs.YteookgjmohokiaaGreat

namespace Go.Proofs.YteookgjmohokiaaGreat
open Go.Eng Go.Vx
set_option linter.unusedSimpArgs false
set_option linter.unusedVariables false
set_option maxRecDepth 100000
end Go.Proofs.YteookgjmohokiaaGreat

namespace Go.Proofs.YteookgjmohokiaaGreat
open Go.Eng Go.Vx
set_option linter.unusedSimpArgs false
set_option linter.unusedVariables false
set_option maxRecDepth 100000
end Go.Proofs.YteookgjmohokiaaGreat

namespace Go.Proofs.YteookgjmohokiaaGreat
open Go.Eng Go.Vx
set_option linter.unusedSimpArgs false
set_option linter.unusedVariables false
set_option maxRecDepth 100000
end Go.Proofs.YteookgjmohokiaaGreat

namespace Go.Proofs.YteookgjmohokiaaGreat
open Go.Eng Go.Vx
set_option linter.unusedSimpArgs false
set_option linter.unusedVariables false
set_option maxRecDepth 100000
def outG {α : Type} (g : α) (L : List Bool) (d : Bool) (o : Option (α × Nat)) : α × Int × Nat × Bool := match o with | some (a, q) => (a, 0, q, d) | none => (g, 8, L.length, true)
def outN (L : List Bool) (d : Bool) (n k p : Nat) : Nat × Int × Nat × Bool := outG 0 L d ((rndD n k).run L p)
end Go.Proofs.YteookgjmohokiaaGreat

namespace Go.Proofs.YteookgjmohokiaaGreat
set_option linter.unusedSimpArgs false
set_option linter.unusedVariables false
theorem run_map {α β : Type} {L : List Bool} {f : α → β} {t : DT α} {p : Nat} : (t.bind fun r => DT.ret (f r)).run L p = (t.run L p).map (fun x => (f x.1, x.2)) := by
  rw [run_bind]
  cases t.run L p with
  | none => rfl
  | some x => rfl
end Go.Proofs.YteookgjmohokiaaGreat
