import Derived.Test.YteookgjmohokiaaGreatE8
import Derived.Test.YteookgjmohokiaaGreatE6
/-! Decimal digits of base 10000: plain facts. -/
namespace Go.Proofs.YteookgjmohokiaaGreat
open Go.Eng
set_option linter.unusedSimpArgs false
set_option linter.unusedVariables false
/-- What digits are, of a base. -/
def valB (B : Nat) : List Nat → Nat
  | [] => 0
  | d :: l => d + B * valB B l
/-- A number's digits, the lowest first; none of 0. -/
def dgB (B : Nat) (n : Nat) : List Nat := if h : n = 0 ∨ B < 2 then [] else n % B :: dgB B (n / B)
termination_by n
decreasing_by exact Nat.div_lt_self (by omega) (by omega)
theorem dgB_zero (B : Nat) : dgB B 0 = [] := by unfold dgB; simp
theorem dgB_pos {B n : Nat} (hB : 2 ≤ B) (h : n ≠ 0) : dgB B n = n % B :: dgB B (n / B) := by
  conv => lhs; unfold dgB
  rw [dif_neg (by omega)]
theorem setB {B : Nat} {l : List Nat} {i x : Nat} (h : ∀ d ∈ l, d < B) (hx : x < B) : ∀ d ∈ l.set i x, d < B := fun y hy => by
  rcases List.mem_or_eq_of_mem_set hy with h' | h'
  · exact h y h'
  · rw [h']; exact hx
theorem nl_nil : nl [] = [] := rfl
attribute [go_sem] nl_nil
def cmpI (a b : Nat) : Int := if a < b then -1 else if b < a then 1 else 0
end Go.Proofs.YteookgjmohokiaaGreat
