import Derived.Test.YtpkfddfkacijoaaRd
namespace Go.Proofs.Ytpkfddfkacijoaa
open Go.Eng Go.Vx
set_option linter.unusedSimpArgs false
set_option linter.unusedVariables false
set_option maxRecDepth 100000
theorem pr_val : pr = 2305843009213693951 := rfl
theorem checkOk_fn {a b : Nat} (ha : a < 2305843009213693951) (hb : b < 2305843009213693951) : Fn1 Try.prog 18 [.agg [.lit (.int .u64 a), .lit (.int .u64 b)]] [] (.lit (.int .i64 0)) [] := by
  refine fn1N_of pl18 (by kernel_rfl) Try.call18 Try.func18 rfl (by kernel_rfl) rfl [.tmp 2] (by kernel_rfl) fun Q hQ => ?_
  refine runW ?_
  exact endW [] hQ
theorem hsum_fn {a b k : Nat} (ha : a < 18446744073709551616) (hb : b < 2305843009213693951) (hk : k < 18446744073709551616) : Fn1 Try.prog 49 [.agg [.lit (.int .u64 a), .lit (.int .u64 b)], .lit (.int .u64 k)] [] (.lit (.int .u64 (((a * k + b) % pr : Nat) : Int))) [] := by
  refine fn1N_of pl49 (by kernel_rfl) Try.call49 Try.func49 rfl (by kernel_rfl) rfl [.tmp 4] (by kernel_rfl) fun Q hQ => ?_
  refine runW ?_
  refine callV0 (hmul_fn ha hk) rfl rfl ?_
  have e : (a * k + b) % pr = (a * k % pr + b) % 2305843009213693951 := by rw [pr_val, Nat.mod_add_mod]
  have hm : a * k % pr < 2305843009213693951 := Nat.mod_lt _ (by decide)
  rw [e] at hQ
  generalize a * k % pr = m at *
  have f : ((m : Int) + (b : Int)) % 2305843009213693951 = (((m + b) % 2305843009213693951 : Nat) : Int) := by omega
  simp (maxSteps := 1000000) (disch := (first | omega | (simp only [lnA, List.length_map, List.length_range, true_and, and_true]; (try omega); done) | fail)) only [go_sem, f, Int.reduceEq, Int.reduceToNat, Nat.reduceAdd, Nat.reduceMul, Nat.reduceEqDiff, ↓reduceIte]
  exact endW [] hQ
theorem hof_fn {a b k c : Nat} (ha : a < 2305843009213693951) (hb : b < 2305843009213693951) (hk : k < 2305843009213693951) (hc : 1 ≤ c ∧ c ≤ 64) : Fn1 Try.prog 19 [.agg [.lit (.int .u64 a), .lit (.int .u64 b)], .lit (.int .u64 k), .lit (.int .i64 c)] [] (.tup [.lit (.int .i64 (((a * k + b) % pr % c : Nat) : Int)), .lit (.int .i64 0)]) [] := by
  refine fn1N_of pl19 (by kernel_rfl) Try.call19 Try.func19 rfl (by kernel_rfl) rfl [.tmp 6, .tmp 7] (by kernel_rfl) fun Q hQ => ?_
  refine runW ?_
  refine callV0 (checkOk_fn ha hb) rfl rfl ?_
  refine runW ?_
  refine callV0 (hsum_fn (by omega) hb (by omega)) rfl rfl ?_
  have hm : (a * k + b) % pr < 2305843009213693951 := Nat.mod_lt _ (by decide)
  generalize (a * k + b) % pr = m at *
  have hmc : m % c < 64 := Nat.lt_of_lt_of_le (Nat.mod_lt _ (by omega)) hc.2
  have f : (m : Int) % (c : Int) = ((m % c : Nat) : Int) := by simp
  have f2 : (m : Int).tmod (c : Int) = ((m % c : Nat) : Int) := by rw [Int.tmod_eq_emod_of_nonneg (by omega)]; exact f
  simp (maxSteps := 1000000) (disch := (first | omega | (simp only [lnA, List.length_map, List.length_range, true_and, and_true]; (try omega); done) | fail)) only [go_sem, f, f2, Int.reduceEq, Int.reduceToNat, Nat.reduceAdd, Nat.reduceMul, Nat.reduceEqDiff, ↓reduceIte]
  exact endW [] hQ
end Go.Proofs.Ytpkfddfkacijoaa
