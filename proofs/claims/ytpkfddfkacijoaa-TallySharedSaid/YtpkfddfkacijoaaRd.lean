import Derived.Test.YtpkfddfkacijoaaFw
import Derived.Test.YtpkfddfkacijoaaN2
namespace Go.Proofs.Ytpkfddfkacijoaa
open Go.Eng Go.Vx
set_option linter.unusedSimpArgs false
set_option linter.unusedVariables false
set_option maxRecDepth 100000
theorem or_three (a b : Nat) (hb : b < 8) : a * 8 ||| b = a * 8 + b := by
  have := Nat.two_pow_add_eq_or_of_lt (i := 3) (b := b) hb a
  rw [show (2 : Nat) ^ 3 = 8 from rfl, Nat.mul_comm 8 a] at this
  exact this.symm
theorem hmul_fn {a b : Nat} (ha : a < 18446744073709551616) (hb : b < 18446744073709551616) : Fn1 Try.prog 73 [.lit (.int .u64 a), .lit (.int .u64 b)] [] (.lit (.int .u64 ((a * b % pr : Nat) : Int))) [] := by
  refine fn1N_of pl73 (by kernel_rfl) Try.call73 Try.func73 rfl (by kernel_rfl) rfl [.tmp 4] (by kernel_rfl) fun Q hQ => ?_
  have e1 : (a : Int) % 2305843009213693951 = ((a % 2305843009213693951 : Nat) : Int) := by omega
  have e2 : (b : Int) % 2305843009213693951 = ((b % 2305843009213693951 : Nat) : Int) := by omega
  have hab : a * b % pr = (a % 2305843009213693951) * (b % 2305843009213693951) % 2305843009213693951 := by unfold pr; rw [← Nat.mul_mod]
  rw [hab] at hQ
  have l1 : a % 2305843009213693951 < 2305843009213693951 := Nat.mod_lt _ (by decide)
  have l2 : b % 2305843009213693951 < 2305843009213693951 := Nat.mod_lt _ (by decide)
  generalize a % 2305843009213693951 = x at *
  generalize b % 2305843009213693951 = y at *
  have hxy : x * y ≤ 2305843009213693950 * 2305843009213693950 := Nat.mul_le_mul (by omega) (by omega)
  simp (maxSteps := 1000000) (disch := (first | omega | (simp only [lnA, List.length_map, List.length_range, true_and, and_true]; (try omega); done) | fail)) only [go_sem, e1, e2, Int.reduceEq, Int.reduceToNat, Nat.reduceAdd, Nat.reduceMul, Nat.reduceEqDiff, ↓reduceIte]
  refine callV0 (mul64_fn (x := x) (y := y) (by omega) (by omega)) rfl rfl ?_
  generalize x * y = z at *
  have hm := mers z
  have hhi : z / 18446744073709551616 < 288230376151711744 := by omega
  have f1 : ((z % 18446744073709551616 : Nat) : Int) % 2305843009213693952 = ((z % 2305843009213693952 : Nat) : Int) := by omega
  have f2 : ((z % 18446744073709551616 : Nat) : Int) / 2305843009213693952 = ((z % 18446744073709551616 / 2305843009213693952 : Nat) : Int) := by omega
  have f3 : ((z / 18446744073709551616 : Nat) : Int) * 8 = ((z / 18446744073709551616 * 8 : Nat) : Int) := by omega
  have f4 : bitK .or .u64 ((z / 18446744073709551616 * 8 : Nat) : Int) ((z % 18446744073709551616 / 2305843009213693952 : Nat) : Int) = ((z / 2305843009213693952 : Nat) : Int) := by
    rw [or_u64 (by omega) (by omega), or_three _ _ (by omega)]
    omega
  have f5 : (((z % 2305843009213693952 : Nat) : Int) + ((z / 2305843009213693952 : Nat) : Int)) % 2305843009213693951 = ((z % 2305843009213693951 : Nat) : Int) := by omega
  simp (maxSteps := 1000000) (disch := (first | omega | (simp only [lnA, List.length_map, List.length_range, true_and, and_true]; (try omega); done) | fail)) only [go_sem, f1, f2, f3, f4, f5, Int.reduceEq, Int.reduceToNat, Nat.reduceAdd, Nat.reduceMul, Nat.reduceEqDiff, ↓reduceIte]
  exact endW [] hQ
end Go.Proofs.Ytpkfddfkacijoaa
