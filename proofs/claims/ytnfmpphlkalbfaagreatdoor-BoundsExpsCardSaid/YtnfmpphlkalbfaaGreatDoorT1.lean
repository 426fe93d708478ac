import Derived.Test.YtnfmpphlkalbfaaGreatDoorE8
import Derived.Test.YtnfmpphlkalbfaaGreatDoorE6
import Derived.Test.YtnfmpphlkalbfaaGreatDoorN1
import Derived.Test.YtnfmpphlkalbfaaGreatDoorD3
import Derived.Test.YtnfmpphlkalbfaaGreatDoorZq
/-! Package tape. -/
namespace Go.Proofs.YtnfmpphlkalbfaaGreatDoor
open Go.Eng Go.Vx
set_option linter.unusedSimpArgs false
set_option linter.unusedVariables false
set_option maxRecDepth 100000
/-- A tape: its coins, where it is, whether it is dead. -/
def tpC (L : List Bool) (p : Nat) (d : Bool) : Ob := .cells [.lit (.int .i64 (p : Int)), .lit (.bool d), .row 1 (L.map be)]
/-- A tape that is only looked at. -/
def tpP (L : List Bool) (p : Nat) (d : Bool) : V := .rref 3 [[.lit (.int .i64 (p : Int)), .lit (.bool d), .row 1 (L.map be)]] 0 0
attribute [go_sem] tpC tpP
end Go.Proofs.YtnfmpphlkalbfaaGreatDoor

/-! Is a tape dead? -/
namespace Go.Proofs.YtnfmpphlkalbfaaGreatDoor
open Go.Eng Go.Vx
set_option linter.unusedSimpArgs false
set_option linter.unusedVariables false
set_option maxRecDepth 100000
end Go.Proofs.YtnfmpphlkalbfaaGreatDoor

/-! The first few of coins. -/
namespace Go.Proofs.YtnfmpphlkalbfaaGreatDoor
open Go.Eng Go.Vx
set_option linter.unusedSimpArgs false
set_option linter.unusedVariables false
set_option maxRecDepth 100000
end Go.Proofs.YtnfmpphlkalbfaaGreatDoor

/-! Package flip. -/
namespace Go.Proofs.YtnfmpphlkalbfaaGreatDoor
open Go.Eng Go.Vx
set_option linter.unusedSimpArgs false
set_option linter.unusedVariables false
set_option maxRecDepth 100000
/-- Of 1 by 2 to the k: yes?, the error, where it ends, dead? -/
def halfX (L : List Bool) : Nat → Nat → Bool × Int × Nat × Bool
  | 0, p => (true, 0, p, false)
  | k + 1, p => if p < L.length then (if L.getD p false then halfX L k (p + 1) else (false, 0, p + 1, false)) else (false, 8, L.length, true)
/-- Of r by D, coin by coin. -/
def ratR (L : List Bool) (D : Nat) : Nat → Nat → Nat → Bool × Int × Nat × Bool
  | 0, _, _ => (false, 8, L.length, true)
  | f + 1, r, p => if p < L.length then
      (if L.getD p false = decide (D ≤ r + r) ∧ (if D ≤ r + r then r + r - D else r + r) ≠ 0 then ratR L D f (if D ≤ r + r then r + r - D else r + r) (p + 1) else (decide (D ≤ r + r) && !L.getD p false, 0, p + 1, false))
      else (false, 8, L.length, true)
theorem ratR_succ (L : List Bool) (D f r p : Nat) : ratR L D (f + 1) r p = if p < L.length then
      (if L.getD p false = decide (D ≤ r + r) ∧ (if D ≤ r + r then r + r - D else r + r) ≠ 0 then ratR L D f (if D ≤ r + r then r + r - D else r + r) (p + 1) else (decide (D ≤ r + r) && !L.getD p false, 0, p + 1, false))
      else (false, 8, L.length, true) := by conv => lhs; unfold ratR
def ratX (L : List Bool) (P D p : Nat) : Bool × Int × Nat × Bool :=
  if D = 0 ∨ D < P then (false, 2, p, false) else if P = 0 then (false, 0, p, false) else if P = D then (true, 0, p, false) else ratR L D (L.length + 1 - p) P p
end Go.Proofs.YtnfmpphlkalbfaaGreatDoor

/-! Package nat: as a small number. -/
namespace Go.Proofs.YtnfmpphlkalbfaaGreatDoor
open Go.Eng Go.Vx
set_option linter.unusedSimpArgs false
set_option linter.unusedVariables false
set_option maxRecDepth 100000
end Go.Proofs.YtnfmpphlkalbfaaGreatDoor

/-! Package rat: quotients, floors; flip.Chance. -/
namespace Go.Proofs.YtnfmpphlkalbfaaGreatDoor
open Go.Eng Go.Vx
set_option linter.unusedSimpArgs false
set_option linter.unusedVariables false
set_option maxRecDepth 100000
end Go.Proofs.YtnfmpphlkalbfaaGreatDoor

/-! draw.Round. -/
namespace Go.Proofs.YtnfmpphlkalbfaaGreatDoor
open Go.Eng Go.Vx
set_option linter.unusedSimpArgs false
set_option linter.unusedVariables false
set_option maxRecDepth 100000
/-- What a fraction is rounded to. -/
def rndX (L : List Bool) (n d p : Nat) : Int × Int × Nat × Bool :=
  let r := ratX L (n % d) d p
  (if r.2.1 = 0 then ((n / d + (if r.1 then 1 else 0) : Nat) : Int) else 0, r.2.1, r.2.2.1, r.2.2.2)
theorem cmpQ_neg {x y : Rat} : cmpQ x y < 0 ↔ x < y := by
  unfold cmpQ
  split
  · rename_i h; simp [h]
  · rename_i h; split <;> simp [h]
theorem cmpQ_pos {x y : Rat} : 0 < cmpQ x y ↔ y < x := by
  unfold cmpQ
  split
  · rename_i h
    have := Rat.not_lt.2 (Rat.le_of_lt h)
    simp [this]
  · rename_i h; split <;> simp [*]
theorem num_nonneg' {x : Rat} (h : 0 ≤ x) : ¬ x.num < 0 := by have := Rat.num_nonneg.2 h; omega
end Go.Proofs.YtnfmpphlkalbfaaGreatDoor
