import Derived.Test.YtfemchdaoihogaaRe
import Derived.Test.YtfemchdaoihogaaE8
import Derived.Test.YtfemchdaoihogaaE6
/-! math/bits.Mul64. -/
namespace Go.Proofs.Ytfemchdaoihogaa
open Go.Eng Go.Vx
set_option linter.unusedSimpArgs false
set_option linter.unusedVariables false
set_option maxRecDepth 100000
theorem mul64_fn {x y : Nat} (hx : x < 18446744073709551616) (hy : y < 18446744073709551616) : Fn1 Try.prog 84 [.lit (.int .u64 x), .lit (.int .u64 y)] [] (.tup [.lit (.int .u64 ((x * y / 18446744073709551616 : Nat) : Int)), .lit (.int .u64 ((x * y % 18446744073709551616 : Nat) : Int))]) [] := by
  refine fn1_of pl84 (by kernel_rfl) Try.call84 Try.func84 rfl (by kernel_rfl) rfl [.tmp 4, .tmp 5] (by kernel_rfl) fun Q hQ => ?_
  have hhi := mul_hi hx hy
  have hlo := wrap_nat (x * y)
  rw [show (2 : Nat) ^ 64 = 18446744073709551616 from rfl] at hlo
  have hxy : (x : Int) * (y : Int) = ((x * y : Nat) : Int) := by simp
  have e1 : (x : Int) % 4294967296 = ((x % 4294967296 : Nat) : Int) := by omega
  have e2 : (x : Int) / 4294967296 = ((x / 4294967296 : Nat) : Int) := by omega
  have e3 : (y : Int) % 4294967296 = ((y % 4294967296 : Nat) : Int) := by omega
  have e4 : (y : Int) / 4294967296 = ((y / 4294967296 : Nat) : Int) := by omega
  have l1 : x % 4294967296 ≤ 4294967295 := by omega
  have l2 : x / 4294967296 ≤ 4294967295 := by omega
  have l3 : y % 4294967296 ≤ 4294967295 := by omega
  have l4 : y / 4294967296 ≤ 4294967295 := by omega
  have p1 := Nat.mul_le_mul l1 l3
  have p2 := Nat.mul_le_mul l1 l4
  have p3 := Nat.mul_le_mul l2 l3
  have p4 := Nat.mul_le_mul l2 l4
  generalize x % 4294967296 = x0 at *
  generalize x / 4294967296 = x1 at *
  generalize y % 4294967296 = y0 at *
  generalize y / 4294967296 = y1 at *
  have m1 : (x0 : Int) * (y0 : Int) = ((x0 * y0 : Nat) : Int) := by simp
  have m2 : (x1 : Int) * (y0 : Int) = ((x1 * y0 : Nat) : Int) := by simp
  have m3 : (x0 : Int) * (y1 : Int) = ((x0 * y1 : Nat) : Int) := by simp
  have m4 : (x1 : Int) * (y1 : Int) = ((x1 * y1 : Nat) : Int) := by simp
  generalize x0 * y0 = s at *
  generalize x1 * y0 = q at *
  generalize x0 * y1 = r at *
  generalize x1 * y1 = p at *
  generalize x * y = z at *
  have d1 : (s : Int) / 4294967296 = ((s / 4294967296 : Nat) : Int) := by omega
  have d2 : ((q : Int) + ((s / 4294967296 : Nat) : Int)) % 4294967296 = (((q + s / 4294967296) % 4294967296 : Nat) : Int) := by omega
  have d3 : ((q : Int) + ((s / 4294967296 : Nat) : Int)) / 4294967296 = (((q + s / 4294967296) / 4294967296 : Nat) : Int) := by omega
  have d4 : ((((q + s / 4294967296) % 4294967296 : Nat) : Int) + (r : Int)) / 4294967296 = ((((q + s / 4294967296) % 4294967296 + r) / 4294967296 : Nat) : Int) := by omega
  have d5 : (p : Int) + (((q + s / 4294967296) / 4294967296 : Nat) : Int) + ((((q + s / 4294967296) % 4294967296 + r) / 4294967296 : Nat) : Int) = ((z / 18446744073709551616 : Nat) : Int) := by omega
  have hz : z / 18446744073709551616 < 18446744073709551616 := by omega
  simp (maxSteps := 1000000) (disch := (first | omega | (simp only [List.length_append, List.length_set, List.length_cons, List.length_nil, List.length_replicate, List.length_take, List.length_drop, List.length_map, List.length_range, true_and, and_true]; (try omega); done) | fail)) only [go_sem, hxy, hlo, e1, e2, e3, e4, m1, m2, m3, m4, d1, d2, d3, d4, d5, Int.reduceEq, Int.reduceToNat, Nat.reduceAdd, Nat.reduceMul, Nat.reduceEqDiff, ↓reduceIte]
  exact endW [] hQ
end Go.Proofs.Ytfemchdaoihogaa
