import Derived.Test.YtpkfddfkacijoaaFb
import Derived.Test.YtpkfddfkacijoaaNe
namespace Go.Proofs.Ytpkfddfkacijoaa
open Go.Eng Go.Vx
set_option linter.unusedSimpArgs false
set_option linter.unusedVariables false
set_option maxRecDepth 100000
theorem npowE_fn {a : Nat} {n : Int} (hn : n < 0) (ha : (wg a).length ≤ 4000000) : Fn1 Try.prog 43 [NV a, .lit (.int .i64 n)] [] (.tup [NV 0, .lit (.int .i64 2)]) [] := by
  rw [NV_zero]
  refine fn1N_of pl43 (by kernel_rfl) Try.call43 Try.func43 rfl (by kernel_rfl) rfl [.cell 4 26, .tmp 5] (by kernel_rfl) fun Q hQ => ?_
  refine runW ?_
  exact endW [] hQ
theorem npowS_fn {a n : Nat} (hb : 1 < bl a) (ha : bl a ≤ 8192) (hn : n < 9223372036854775808) (h : 8192 / bl a < n) : Fn1 Try.prog 43 [NV a, .lit (.int .i64 (n : Int))] [] (.tup [NV 0, .lit (.int .i64 3)]) [] := by
  have wa : (wg a).length ≤ 128 := wg_bl (by omega)
  rw [NV_zero]
  refine fn1N_of pl43 (by kernel_rfl) Try.call43 Try.func43 rfl (by kernel_rfl) rfl [.cell 4 26, .tmp 5] (by kernel_rfl) fun Q hQ => ?_
  have hdd : (8192 : Int) / (bl a : Int) = ((8192 / bl a : Nat) : Int) := by simp
  generalize 8192 / bl a = g at *
  refine runW ?_
  refine callV0 (bits_fn (n := a) (by omega)) rfl rfl ?_
  refine runW ?_
  refine callV0 (bits_fn (n := a) (by omega)) rfl rfl ?_
  simp (maxSteps := 1000000) (disch := (first | omega | (simp only [lnA, List.length_map, List.length_range, true_and, and_true]; (try omega); done) | fail)) only [go_sem, hdd, Int.reduceEq, Int.reduceToNat, Nat.reduceAdd, Nat.reduceMul, Nat.reduceEqDiff, ↓reduceIte]
  exact endW [] hQ
theorem pow_min {a : Nat} (h : bl a ≤ 1) (n : Nat) : a ^ n = a ^ min n 1 := by
  have h2 := bl_lt a
  have h3 : 2 ^ bl a ≤ 2 ^ 1 := Nat.pow_le_pow_right (by decide) h
  have h4 : a = 0 ∨ a = 1 := by omega
  rcases h4 with rfl | rfl
  · rcases Nat.eq_zero_or_pos n with rfl | hp
    · rfl
    · rw [Nat.zero_pow hp, Nat.min_eq_right (by omega)]
  · rw [Nat.one_pow, Nat.one_pow]
theorem pow_bl7 {a n K i : Nat} (h : n * bl a ≤ K) (hi : i ≤ n) : bl (a ^ i) ≤ K + 1 := by
  refine Nat.le_trans (pow_bl_le a i) ?_
  have h6 := Nat.mul_le_mul_left (bl a) hi
  rw [Nat.mul_comm (bl a) n] at h6
  omega
end Go.Proofs.Ytpkfddfkacijoaa
