import Derived.Test.YtdmdmdoeahhkiaaDoorN1
import Derived.Test.YtdmdmdoeahhkiaaDoorT1
namespace Go.Proofs.YtdmdmdoeahhkiaaDoor
open Go.Eng Go.Vx
set_option linter.unusedSimpArgs false
set_option linter.unusedVariables false
set_option maxRecDepth 100000
def halfX (L : List Bool) : Nat → Nat → Bool × Int × Nat × Bool
  | 0, p => (true, 0, p, false)
  | k + 1, p => if p < L.length then (if L.getD p false then halfX L k (p + 1) else (false, 0, p + 1, false)) else (false, 8, L.length, true)
theorem halfX_zero (L : List Bool) (p : Nat) : halfX L 0 p = (true, 0, p, false) := by unfold halfX; rfl
theorem halfX_succ (L : List Bool) (k p : Nat) : halfX L (k + 1) p = if p < L.length then (if L.getD p false then halfX L k (p + 1) else (false, 0, p + 1, false)) else (false, 8, L.length, true) := by conv => lhs; unfold halfX
def ratR (L : List Bool) (D : Nat) : Nat → Nat → Nat → Bool × Int × Nat × Bool
  | 0, _, _ => (false, 8, L.length, true)
  | f + 1, r, p => if p < L.length then
      (if L.getD p false = decide (D ≤ r + r) ∧ (if D ≤ r + r then r + r - D else r + r) ≠ 0 then ratR L D f (if D ≤ r + r then r + r - D else r + r) (p + 1) else (decide (D ≤ r + r) && !L.getD p false, 0, p + 1, false))
      else (false, 8, L.length, true)
theorem ratR_succ (L : List Bool) (D f r p : Nat) : ratR L D (f + 1) r p = if p < L.length then
      (if L.getD p false = decide (D ≤ r + r) ∧ (if D ≤ r + r then r + r - D else r + r) ≠ 0 then ratR L D f (if D ≤ r + r then r + r - D else r + r) (p + 1) else (decide (D ≤ r + r) && !L.getD p false, 0, p + 1, false))
      else (false, 8, L.length, true) := by conv => lhs; unfold ratR
def ratX (L : List Bool) (P D p : Nat) : Bool × Int × Nat × Bool :=
  if D = 0 ∨ D < P then (false, 2, p, false) else if P = 0 then (false, 0, p, false) else if P = D then (true, 0, p, false) else ratR L D (L.length + 1 - p) P p
end Go.Proofs.YtdmdmdoeahhkiaaDoor
