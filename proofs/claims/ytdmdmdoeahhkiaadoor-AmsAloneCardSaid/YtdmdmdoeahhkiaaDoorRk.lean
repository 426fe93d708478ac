import Derived.Test.YtdmdmdoeahhkiaaDoorE6
import Derived.Test.YtdmdmdoeahhkiaaDoorLb
import Derived.Test.YtdmdmdoeahhkiaaDoorRi
namespace Go.Vx
open Go.Eng
set_option linter.unusedSimpArgs false
set_option linter.unusedVariables false
section
variable {P : Program}
def FnR (P : Program) (f : FuncId) (vs : List V) (σ : St) {X : Type} (R : X → Prop) (r : X → V) (s : X → St) : Prop := Fn P f vs σ fun u' s' => ∃ x, R x ∧ u' = r x ∧ s' = s x
end
@[go_sem] theorem pnO_cells {l : List V} : pnO (.cells l) = (pnV.pnL l = true) := (rfl)
end Go.Vx

namespace Go.Proofs.YtdmdmdoeahhkiaaDoor
open Go.Eng Go.Vx
set_option linter.unusedSimpArgs false
set_option linter.unusedVariables false
set_option maxRecDepth 100000
theorem RS_one {a : Int} (h0 : -9223372036854775808 ≤ a) (h1 : a ≤ 9223372036854775807) : RS 1 (a : Rat) := RS_int (wg_int h0 h1) (by decide)
end Go.Proofs.YtdmdmdoeahhkiaaDoor

namespace Go.Proofs.YtdmdmdoeahhkiaaDoor
open Go.Eng Go.Vx
set_option linter.unusedSimpArgs false
set_option linter.unusedVariables false
set_option maxRecDepth 100000
def xl (N : Nat) : Int := ((N * lgN (max 1 N) : Nat) : Int)
theorem xl_le {N : Nat} (h : N ≤ 1048576) : 0 ≤ xl N ∧ xl N ≤ 11542724608000000 := by
  have hl := lgN_le (n := max 1 N) (by omega) (by omega)
  have hm : N * lgN (max 1 N) ≤ 1048576 * (41 * 268435456) := Nat.mul_le_mul h (by omega)
  unfold xl
  omega
theorem xlogx_fn {N : Nat} {n : Int} (h : max 0 (min n 1048576) = (N : Int)) : Fn1 Tryd.prog 40 [.lit (.int .i64 n)] [] (.lit (.int .i64 (xl N))) [] := xlog_fn h
theorem xlogn_fn {N : Nat} (h2 : N ≤ 1048576) : Fn1 Tryd.prog 40 [.lit (.int .i64 (N : Int))] [] (.lit (.int .i64 (xl N))) [] := xlogx_fn (by omega)
end Go.Proofs.YtdmdmdoeahhkiaaDoor
