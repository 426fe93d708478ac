import Derived.Test.YtdpekigpjihnkaaRd
/-! HashSums, HashMuls, HashApart. -/
namespace Go.Proofs.Ytdpekigpjihnkaa
open Go.Eng Go.Vx
set_option linter.unusedSimpArgs false
set_option linter.unusedVariables false
set_option maxRecDepth 100000
theorem pr_val : pr = 2305843009213693951 := rfl
theorem checkOk_fn {a b : Nat} (ha : a < 2305843009213693951) (hb : b < 2305843009213693951) : Fn1 Try.prog 17 [.agg [.lit (.int .u64 a), .lit (.int .u64 b)]] [] (.lit (.int .i64 0)) [] := by
  refine fn1_of pl17 (by kernel_rfl) Try.call17 Try.func17 rfl (by kernel_rfl) rfl [.tmp 2] (by kernel_rfl) fun Q hQ => ?_
  simp (maxSteps := 1000000) (disch := (first | omega | (simp only [List.length_append, List.length_set, List.length_cons, List.length_nil, List.length_replicate, List.length_take, List.length_drop, List.length_map, List.length_range, true_and, and_true]; (try omega); done) | fail)) only [go_sem, Int.reduceEq, Int.reduceToNat, Nat.reduceAdd, Nat.reduceMul, Nat.reduceEqDiff, ↓reduceIte]
  exact endW [] hQ
theorem checkBad_fn {a b : Nat} (h : 2305843009213693951 ≤ a ∨ 2305843009213693951 ≤ b) : Fn1 Try.prog 17 [.agg [.lit (.int .u64 a), .lit (.int .u64 b)]] [] (.lit (.int .i64 2)) [] := by
  refine fn1_of pl17 (by kernel_rfl) Try.call17 Try.func17 rfl (by kernel_rfl) rfl [.tmp 2] (by kernel_rfl) fun Q hQ => ?_
  by_cases h1 : 2305843009213693951 ≤ a
  · simp (maxSteps := 1000000) (disch := (first | omega | (simp only [List.length_append, List.length_set, List.length_cons, List.length_nil, List.length_replicate, List.length_take, List.length_drop, List.length_map, List.length_range, true_and, and_true]; (try omega); done) | fail)) only [go_sem, Int.reduceEq, Int.reduceToNat, Nat.reduceAdd, Nat.reduceMul, Nat.reduceEqDiff, ↓reduceIte]
    exact endW [] hQ
  · simp (maxSteps := 1000000) (disch := (first | omega | (simp only [List.length_append, List.length_set, List.length_cons, List.length_nil, List.length_replicate, List.length_take, List.length_drop, List.length_map, List.length_range, true_and, and_true]; (try omega); done) | fail)) only [go_sem, Int.reduceEq, Int.reduceToNat, Nat.reduceAdd, Nat.reduceMul, Nat.reduceEqDiff, ↓reduceIte]
    exact endW [] hQ
theorem hsum_fn {a b k : Nat} (ha : a < 18446744073709551616) (hb : b < 2305843009213693951) (hk : k < 18446744073709551616) : Fn1 Try.prog 39 [.agg [.lit (.int .u64 a), .lit (.int .u64 b)], .lit (.int .u64 k)] [] (.lit (.int .u64 (((a * k + b) % pr : Nat) : Int))) [] := by
  refine fn1_of pl39 (by kernel_rfl) Try.call39 Try.func39 rfl (by kernel_rfl) rfl [.tmp 4] (by kernel_rfl) fun Q hQ => ?_
  simp (maxSteps := 1000000) (disch := (first | omega | (simp only [List.length_append, List.length_set, List.length_cons, List.length_nil, List.length_replicate, List.length_take, List.length_drop, List.length_map, List.length_range, true_and, and_true]; (try omega); done) | fail)) only [go_sem, Int.reduceEq, Int.reduceToNat, Nat.reduceAdd, Nat.reduceMul, Nat.reduceEqDiff, ↓reduceIte]
  refine callV0 (hmul_fn ha hk) rfl rfl ?_
  have e : (a * k + b) % pr = (a * k % pr + b) % 2305843009213693951 := by rw [pr_val, Nat.mod_add_mod]
  have hm : a * k % pr < 2305843009213693951 := Nat.mod_lt _ (by decide)
  rw [e] at hQ
  generalize a * k % pr = m at *
  have f : ((m : Int) + (b : Int)) % 2305843009213693951 = (((m + b) % 2305843009213693951 : Nat) : Int) := by omega
  simp (maxSteps := 1000000) (disch := (first | omega | (simp only [List.length_append, List.length_set, List.length_cons, List.length_nil, List.length_replicate, List.length_take, List.length_drop, List.length_map, List.length_range, true_and, and_true]; (try omega); done) | fail)) only [go_sem, f, Int.reduceEq, Int.reduceToNat, Nat.reduceAdd, Nat.reduceMul, Nat.reduceEqDiff, ↓reduceIte]
  exact endW [] hQ
theorem ofBad_fn {a b k : Nat} {c : Int} (h : 2305843009213693951 ≤ a ∨ 2305843009213693951 ≤ b) : Fn1 Try.prog 14 [.agg [.lit (.int .u64 a), .lit (.int .u64 b)], .lit (.int .u64 k), .lit (.int .i64 c)] [] (.tup [.lit (.int .i64 0), .lit (.int .i64 2)]) [] := by
  refine fn1_of pl14 (by kernel_rfl) Try.call14 Try.func14 rfl (by kernel_rfl) rfl [.tmp 6, .tmp 7] (by kernel_rfl) fun Q hQ => ?_
  simp (maxSteps := 1000000) (disch := (first | omega | (simp only [List.length_append, List.length_set, List.length_cons, List.length_nil, List.length_replicate, List.length_take, List.length_drop, List.length_map, List.length_range, true_and, and_true]; (try omega); done) | fail)) only [go_sem, Int.reduceEq, Int.reduceToNat, Nat.reduceAdd, Nat.reduceMul, Nat.reduceEqDiff, ↓reduceIte]
  refine callV0 (checkBad_fn h) rfl rfl ?_
  simp (maxSteps := 1000000) (disch := (first | omega | (simp only [List.length_append, List.length_set, List.length_cons, List.length_nil, List.length_replicate, List.length_take, List.length_drop, List.length_map, List.length_range, true_and, and_true]; (try omega); done) | fail)) only [go_sem, Int.reduceEq, Int.reduceToNat, Nat.reduceAdd, Nat.reduceMul, Nat.reduceEqDiff, ↓reduceIte]
  exact endW [] hQ
theorem ofKey_fn {a b k : Nat} {c : Int} (ha : a < 2305843009213693951) (hb : b < 2305843009213693951) (hk : 2305843009213693951 ≤ k) : Fn1 Try.prog 14 [.agg [.lit (.int .u64 a), .lit (.int .u64 b)], .lit (.int .u64 k), .lit (.int .i64 c)] [] (.tup [.lit (.int .i64 0), .lit (.int .i64 2)]) [] := by
  refine fn1_of pl14 (by kernel_rfl) Try.call14 Try.func14 rfl (by kernel_rfl) rfl [.tmp 6, .tmp 7] (by kernel_rfl) fun Q hQ => ?_
  simp (maxSteps := 1000000) (disch := (first | omega | (simp only [List.length_append, List.length_set, List.length_cons, List.length_nil, List.length_replicate, List.length_take, List.length_drop, List.length_map, List.length_range, true_and, and_true]; (try omega); done) | fail)) only [go_sem, Int.reduceEq, Int.reduceToNat, Nat.reduceAdd, Nat.reduceMul, Nat.reduceEqDiff, ↓reduceIte]
  refine callV0 (checkOk_fn ha hb) rfl rfl ?_
  simp (maxSteps := 1000000) (disch := (first | omega | (simp only [List.length_append, List.length_set, List.length_cons, List.length_nil, List.length_replicate, List.length_take, List.length_drop, List.length_map, List.length_range, true_and, and_true]; (try omega); done) | fail)) only [go_sem, Int.reduceEq, Int.reduceToNat, Nat.reduceAdd, Nat.reduceMul, Nat.reduceEqDiff, ↓reduceIte]
  exact endW [] hQ
theorem ofCols_fn {a b k : Nat} {c : Int} (ha : a < 2305843009213693951) (hb : b < 2305843009213693951) (hk : k < 2305843009213693951) (hc : c < 1 ∨ 64 < c) : Fn1 Try.prog 14 [.agg [.lit (.int .u64 a), .lit (.int .u64 b)], .lit (.int .u64 k), .lit (.int .i64 c)] [] (.tup [.lit (.int .i64 0), .lit (.int .i64 10)]) [] := by
  refine fn1_of pl14 (by kernel_rfl) Try.call14 Try.func14 rfl (by kernel_rfl) rfl [.tmp 6, .tmp 7] (by kernel_rfl) fun Q hQ => ?_
  simp (maxSteps := 1000000) (disch := (first | omega | (simp only [List.length_append, List.length_set, List.length_cons, List.length_nil, List.length_replicate, List.length_take, List.length_drop, List.length_map, List.length_range, true_and, and_true]; (try omega); done) | fail)) only [go_sem, Int.reduceEq, Int.reduceToNat, Nat.reduceAdd, Nat.reduceMul, Nat.reduceEqDiff, ↓reduceIte]
  refine callV0 (checkOk_fn ha hb) rfl rfl ?_
  by_cases h1 : c < 1
  · simp (maxSteps := 1000000) (disch := (first | omega | (simp only [List.length_append, List.length_set, List.length_cons, List.length_nil, List.length_replicate, List.length_take, List.length_drop, List.length_map, List.length_range, true_and, and_true]; (try omega); done) | fail)) only [go_sem, Int.reduceEq, Int.reduceToNat, Nat.reduceAdd, Nat.reduceMul, Nat.reduceEqDiff, ↓reduceIte]
    exact endW [] hQ
  · simp (maxSteps := 1000000) (disch := (first | omega | (simp only [List.length_append, List.length_set, List.length_cons, List.length_nil, List.length_replicate, List.length_take, List.length_drop, List.length_map, List.length_range, true_and, and_true]; (try omega); done) | fail)) only [go_sem, Int.reduceEq, Int.reduceToNat, Nat.reduceAdd, Nat.reduceMul, Nat.reduceEqDiff, ↓reduceIte]
    exact endW [] hQ
theorem of_fn {a b k c : Nat} (ha : a < 2305843009213693951) (hb : b < 2305843009213693951) (hk : k < 2305843009213693951) (hc : 1 ≤ c ∧ c ≤ 64) : Fn1 Try.prog 14 [.agg [.lit (.int .u64 a), .lit (.int .u64 b)], .lit (.int .u64 k), .lit (.int .i64 c)] [] (.tup [.lit (.int .i64 (((a * k + b) % pr % c : Nat) : Int)), .lit (.int .i64 0)]) [] := by
  refine fn1_of pl14 (by kernel_rfl) Try.call14 Try.func14 rfl (by kernel_rfl) rfl [.tmp 6, .tmp 7] (by kernel_rfl) fun Q hQ => ?_
  simp (maxSteps := 1000000) (disch := (first | omega | (simp only [List.length_append, List.length_set, List.length_cons, List.length_nil, List.length_replicate, List.length_take, List.length_drop, List.length_map, List.length_range, true_and, and_true]; (try omega); done) | fail)) only [go_sem, Int.reduceEq, Int.reduceToNat, Nat.reduceAdd, Nat.reduceMul, Nat.reduceEqDiff, ↓reduceIte]
  refine callV0 (checkOk_fn ha hb) rfl rfl ?_
  simp (maxSteps := 1000000) (disch := (first | omega | (simp only [List.length_append, List.length_set, List.length_cons, List.length_nil, List.length_replicate, List.length_take, List.length_drop, List.length_map, List.length_range, true_and, and_true]; (try omega); done) | fail)) only [go_sem, Int.reduceEq, Int.reduceToNat, Nat.reduceAdd, Nat.reduceMul, Nat.reduceEqDiff, ↓reduceIte]
  refine callV0 (hsum_fn (by omega) hb (by omega)) rfl rfl ?_
  have hm : (a * k + b) % pr < 2305843009213693951 := Nat.mod_lt _ (by decide)
  generalize (a * k + b) % pr = m at *
  have hmc : m % c < 64 := Nat.lt_of_lt_of_le (Nat.mod_lt _ (by omega)) hc.2
  have f : (m : Int) % (c : Int) = ((m % c : Nat) : Int) := by simp
  have f2 : (m : Int).tmod (c : Int) = ((m % c : Nat) : Int) := by rw [Int.tmod_eq_emod_of_nonneg (by omega)]; exact f
  simp (maxSteps := 1000000) (disch := (first | omega | (simp only [List.length_append, List.length_set, List.length_cons, List.length_nil, List.length_replicate, List.length_take, List.length_drop, List.length_map, List.length_range, true_and, and_true]; (try omega); done) | fail)) only [go_sem, f, f2, Int.reduceEq, Int.reduceToNat, Nat.reduceAdd, Nat.reduceMul, Nat.reduceEqDiff, ↓reduceIte]
  exact endW [] hQ
theorem awake20_fn : Fn1 Try.prog 13 [] [] (.lit (.bool true)) [] := by
  refine fn1_of pl13 (by kernel_rfl) Try.call13 Try.func13 rfl (by kernel_rfl) rfl [.tmp 0] (by kernel_rfl) fun Q hQ => ?_
  have h1 : Fn1 Try.prog 14 [.agg [.lit (.int .u64 3), .lit (.int .u64 5)], .lit (.int .u64 7), .lit (.int .i64 10)] [] (.tup [.lit (.int .i64 6), .lit (.int .i64 0)]) [] := of_fn (a := 3) (b := 5) (k := 7) (c := 10) (by decide) (by decide) (by decide) (by decide)
  have h2 : Fn1 Try.prog 15 [.lit (.int .u64 3), .lit (.int .u64 5)] [] (.lit (.int .u64 15)) [] := hmul_fn (a := 3) (b := 5) (by decide) (by decide)
  simp (maxSteps := 1000000) (disch := (first | omega | (simp only [List.length_append, List.length_set, List.length_cons, List.length_nil, List.length_replicate, List.length_take, List.length_drop, List.length_map, List.length_range, true_and, and_true]; (try omega); done) | fail)) only [go_sem, Int.reduceEq, Int.reduceToNat, Nat.reduceAdd, Nat.reduceMul, Nat.reduceEqDiff, ↓reduceIte]
  refine callV0 (h1) rfl rfl ?_
  simp (maxSteps := 1000000) (disch := (first | omega | (simp only [List.length_append, List.length_set, List.length_cons, List.length_nil, List.length_replicate, List.length_take, List.length_drop, List.length_map, List.length_range, true_and, and_true]; (try omega); done) | fail)) only [go_sem, Int.reduceEq, Int.reduceToNat, Nat.reduceAdd, Nat.reduceMul, Nat.reduceEqDiff, ↓reduceIte]
  refine callV0 (h2) rfl rfl ?_
  simp (maxSteps := 1000000) (disch := (first | omega | (simp only [List.length_append, List.length_set, List.length_cons, List.length_nil, List.length_replicate, List.length_take, List.length_drop, List.length_map, List.length_range, true_and, and_true]; (try omega); done) | fail)) only [go_sem, Int.reduceEq, Int.reduceToNat, Nat.reduceAdd, Nat.reduceMul, Nat.reduceEqDiff, ↓reduceIte]
  exact endW [] hQ
theorem hashSums_fn {a b k : Nat} {c : Int} (ha : a < 18446744073709551616) (hb : b < 18446744073709551616) (hk : k < 18446744073709551616) : Fn1 Try.prog 3 [.agg [.lit (.int .u64 a), .lit (.int .u64 b)], .lit (.int .u64 k), .lit (.int .i64 c)] [] (.lit (.bool true)) [] := by
  refine fn1_of pl3 (by kernel_rfl) Try.call3 Try.func3 rfl (by kernel_rfl) rfl [.tmp 6] (by kernel_rfl) fun Q hQ => ?_
  simp (maxSteps := 1000000) (disch := (first | omega | (simp only [List.length_append, List.length_set, List.length_cons, List.length_nil, List.length_replicate, List.length_take, List.length_drop, List.length_map, List.length_range, true_and, and_true]; (try omega); done) | fail)) only [go_sem, Int.reduceEq, Int.reduceToNat, Nat.reduceAdd, Nat.reduceMul, Nat.reduceEqDiff, ↓reduceIte]
  refine callV0 (awake20_fn) rfl rfl ?_
  simp (maxSteps := 1000000) (disch := (first | omega | (simp only [List.length_append, List.length_set, List.length_cons, List.length_nil, List.length_replicate, List.length_take, List.length_drop, List.length_map, List.length_range, true_and, and_true]; (try omega); done) | fail)) only [go_sem, Int.reduceEq, Int.reduceToNat, Nat.reduceAdd, Nat.reduceMul, Nat.reduceEqDiff, ↓reduceIte]
  by_cases h1 : 2305843009213693951 ≤ a ∨ 2305843009213693951 ≤ b
  · refine callV0 (ofBad_fn h1) rfl rfl ?_
    simp (maxSteps := 1000000) (disch := (first | omega | (simp only [List.length_append, List.length_set, List.length_cons, List.length_nil, List.length_replicate, List.length_take, List.length_drop, List.length_map, List.length_range, true_and, and_true]; (try omega); done) | fail)) only [go_sem, Int.reduceEq, Int.reduceToNat, Nat.reduceAdd, Nat.reduceMul, Nat.reduceEqDiff, ↓reduceIte]
    refine callV0 (hmul_fn ha hk) rfl rfl ?_
    simp (maxSteps := 1000000) (disch := (first | omega | (simp only [List.length_append, List.length_set, List.length_cons, List.length_nil, List.length_replicate, List.length_take, List.length_drop, List.length_map, List.length_range, true_and, and_true]; (try omega); done) | fail)) only [go_sem, Int.reduceEq, Int.reduceToNat, Nat.reduceAdd, Nat.reduceMul, Nat.reduceEqDiff, ↓reduceIte]
    refine callV0 (rmul_fn ha hk) rfl rfl ?_
    by_cases h2 : 2305843009213693951 ≤ a
    · simp (maxSteps := 1000000) (disch := (first | omega | (simp only [List.length_append, List.length_set, List.length_cons, List.length_nil, List.length_replicate, List.length_take, List.length_drop, List.length_map, List.length_range, true_and, and_true]; (try omega); done) | fail)) only [go_sem, Int.reduceEq, Int.reduceToNat, Nat.reduceAdd, Nat.reduceMul, Nat.reduceEqDiff, ↓reduceIte]
      refine callV0 (checkBad_fn h1) rfl rfl ?_
      simp (maxSteps := 1000000) (disch := (first | omega | (simp only [List.length_append, List.length_set, List.length_cons, List.length_nil, List.length_replicate, List.length_take, List.length_drop, List.length_map, List.length_range, true_and, and_true]; (try omega); done) | fail)) only [go_sem, Int.reduceEq, Int.reduceToNat, Nat.reduceAdd, Nat.reduceMul, Nat.reduceEqDiff, ↓reduceIte]
      exact endW [] hQ
    · simp (maxSteps := 1000000) (disch := (first | omega | (simp only [List.length_append, List.length_set, List.length_cons, List.length_nil, List.length_replicate, List.length_take, List.length_drop, List.length_map, List.length_range, true_and, and_true]; (try omega); done) | fail)) only [go_sem, Int.reduceEq, Int.reduceToNat, Nat.reduceAdd, Nat.reduceMul, Nat.reduceEqDiff, ↓reduceIte]
      refine callV0 (checkBad_fn h1) rfl rfl ?_
      simp (maxSteps := 1000000) (disch := (first | omega | (simp only [List.length_append, List.length_set, List.length_cons, List.length_nil, List.length_replicate, List.length_take, List.length_drop, List.length_map, List.length_range, true_and, and_true]; (try omega); done) | fail)) only [go_sem, Int.reduceEq, Int.reduceToNat, Nat.reduceAdd, Nat.reduceMul, Nat.reduceEqDiff, ↓reduceIte]
      exact endW [] hQ
  · by_cases h2 : 2305843009213693951 ≤ k
    · refine callV0 (ofKey_fn (by omega) (by omega) h2) rfl rfl ?_
      simp (maxSteps := 1000000) (disch := (first | omega | (simp only [List.length_append, List.length_set, List.length_cons, List.length_nil, List.length_replicate, List.length_take, List.length_drop, List.length_map, List.length_range, true_and, and_true]; (try omega); done) | fail)) only [go_sem, Int.reduceEq, Int.reduceToNat, Nat.reduceAdd, Nat.reduceMul, Nat.reduceEqDiff, ↓reduceIte]
      refine callV0 (hmul_fn ha hk) rfl rfl ?_
      simp (maxSteps := 1000000) (disch := (first | omega | (simp only [List.length_append, List.length_set, List.length_cons, List.length_nil, List.length_replicate, List.length_take, List.length_drop, List.length_map, List.length_range, true_and, and_true]; (try omega); done) | fail)) only [go_sem, Int.reduceEq, Int.reduceToNat, Nat.reduceAdd, Nat.reduceMul, Nat.reduceEqDiff, ↓reduceIte]
      refine callV0 (rmul_fn ha hk) rfl rfl ?_
      simp (maxSteps := 1000000) (disch := (first | omega | (simp only [List.length_append, List.length_set, List.length_cons, List.length_nil, List.length_replicate, List.length_take, List.length_drop, List.length_map, List.length_range, true_and, and_true]; (try omega); done) | fail)) only [go_sem, Int.reduceEq, Int.reduceToNat, Nat.reduceAdd, Nat.reduceMul, Nat.reduceEqDiff, ↓reduceIte]
      refine callV0 (checkOk_fn (by omega) (by omega)) rfl rfl ?_
      simp (maxSteps := 1000000) (disch := (first | omega | (simp only [List.length_append, List.length_set, List.length_cons, List.length_nil, List.length_replicate, List.length_take, List.length_drop, List.length_map, List.length_range, true_and, and_true]; (try omega); done) | fail)) only [go_sem, Int.reduceEq, Int.reduceToNat, Nat.reduceAdd, Nat.reduceMul, Nat.reduceEqDiff, ↓reduceIte]
      exact endW [] hQ
    · by_cases h3 : c < 1 ∨ 64 < c
      · refine callV0 (ofCols_fn (by omega) (by omega) (by omega) h3) rfl rfl ?_
        simp (maxSteps := 1000000) (disch := (first | omega | (simp only [List.length_append, List.length_set, List.length_cons, List.length_nil, List.length_replicate, List.length_take, List.length_drop, List.length_map, List.length_range, true_and, and_true]; (try omega); done) | fail)) only [go_sem, Int.reduceEq, Int.reduceToNat, Nat.reduceAdd, Nat.reduceMul, Nat.reduceEqDiff, ↓reduceIte]
        refine callV0 (hmul_fn ha hk) rfl rfl ?_
        simp (maxSteps := 1000000) (disch := (first | omega | (simp only [List.length_append, List.length_set, List.length_cons, List.length_nil, List.length_replicate, List.length_take, List.length_drop, List.length_map, List.length_range, true_and, and_true]; (try omega); done) | fail)) only [go_sem, Int.reduceEq, Int.reduceToNat, Nat.reduceAdd, Nat.reduceMul, Nat.reduceEqDiff, ↓reduceIte]
        refine callV0 (rmul_fn ha hk) rfl rfl ?_
        by_cases h4 : c < 1
        · simp (maxSteps := 1000000) (disch := (first | omega | (simp only [List.length_append, List.length_set, List.length_cons, List.length_nil, List.length_replicate, List.length_take, List.length_drop, List.length_map, List.length_range, true_and, and_true]; (try omega); done) | fail)) only [go_sem, Int.reduceEq, Int.reduceToNat, Nat.reduceAdd, Nat.reduceMul, Nat.reduceEqDiff, ↓reduceIte]
          exact endW [] hQ
        · simp (maxSteps := 1000000) (disch := (first | omega | (simp only [List.length_append, List.length_set, List.length_cons, List.length_nil, List.length_replicate, List.length_take, List.length_drop, List.length_map, List.length_range, true_and, and_true]; (try omega); done) | fail)) only [go_sem, Int.reduceEq, Int.reduceToNat, Nat.reduceAdd, Nat.reduceMul, Nat.reduceEqDiff, ↓reduceIte]
          exact endW [] hQ
      · obtain ⟨d, rfl⟩ := Int.eq_ofNat_of_zero_le (show 0 ≤ c by omega)
        refine callV0 (of_fn (by omega) (by omega) (by omega) (by omega)) rfl rfl ?_
        simp (maxSteps := 1000000) (disch := (first | omega | (simp only [List.length_append, List.length_set, List.length_cons, List.length_nil, List.length_replicate, List.length_take, List.length_drop, List.length_map, List.length_range, true_and, and_true]; (try omega); done) | fail)) only [go_sem, Int.reduceEq, Int.reduceToNat, Nat.reduceAdd, Nat.reduceMul, Nat.reduceEqDiff, ↓reduceIte]
        refine callV0 (hmul_fn ha hk) rfl rfl ?_
        simp (maxSteps := 1000000) (disch := (first | omega | (simp only [List.length_append, List.length_set, List.length_cons, List.length_nil, List.length_replicate, List.length_take, List.length_drop, List.length_map, List.length_range, true_and, and_true]; (try omega); done) | fail)) only [go_sem, Int.reduceEq, Int.reduceToNat, Nat.reduceAdd, Nat.reduceMul, Nat.reduceEqDiff, ↓reduceIte]
        refine callV0 (rmul_fn ha hk) rfl rfl ?_
        simp (maxSteps := 1000000) (disch := (first | omega | (simp only [List.length_append, List.length_set, List.length_cons, List.length_nil, List.length_replicate, List.length_take, List.length_drop, List.length_map, List.length_range, true_and, and_true]; (try omega); done) | fail)) only [go_sem, Int.reduceEq, Int.reduceToNat, Nat.reduceAdd, Nat.reduceMul, Nat.reduceEqDiff, ↓reduceIte]
        refine callV0 (rsum_fn ha hb hk) rfl rfl ?_
        have hm : (a * k + b) % pr < 2305843009213693951 := Nat.mod_lt _ (by decide)
        generalize (a * k + b) % pr = m at *
        have hmc : m % d < 64 := Nat.lt_of_lt_of_le (Nat.mod_lt _ (by omega)) (by omega)
        have f : (m : Int) % (d : Int) = ((m % d : Nat) : Int) := by simp
        have f2 : (m : Int).tmod (d : Int) = ((m % d : Nat) : Int) := by rw [Int.tmod_eq_emod_of_nonneg (by omega)]; exact f
        simp (maxSteps := 1000000) (disch := (first | omega | (simp only [List.length_append, List.length_set, List.length_cons, List.length_nil, List.length_replicate, List.length_take, List.length_drop, List.length_map, List.length_range, true_and, and_true]; (try omega); done) | fail)) only [go_sem, f, f2, Int.reduceEq, Int.reduceToNat, Nat.reduceAdd, Nat.reduceMul, Nat.reduceEqDiff, ↓reduceIte]
        exact endW [] hQ
theorem pow_odd (o m e p : Nat) (h : e % 2 = 1) : (o * m % p) * (m * m % p) ^ (e / 2) % p = o * m ^ e % p := by
  rw [Nat.mod_mul_mod, Nat.mul_mod, ← Nat.pow_mod, ← Nat.mul_mod, Nat.mul_assoc, show m * m = m ^ 2 by rw [Nat.pow_two], ← Nat.pow_mul, ← Nat.pow_succ', show (2 * (e / 2)).succ = e by omega]
theorem pow_even (o m e p : Nat) (h : ¬ e % 2 = 1) : o * (m * m % p) ^ (e / 2) % p = o * m ^ e % p := by
  rw [Nat.mul_mod, ← Nat.pow_mod, ← Nat.mul_mod, show m * m = m ^ 2 by rw [Nat.pow_two], ← Nat.pow_mul, show 2 * (e / 2) = e by omega]
theorem inverse_fn {n : Nat} (hn : n < 18446744073709551616) : Fn1 Try.prog 19 [.lit (.int .u64 n)] [] (.lit (.int .u64 ((n ^ (pr - 2) % pr : Nat) : Int))) [] := by
  refine fn1_of pl19 (by kernel_rfl) Try.call19 Try.func19 rfl (by kernel_rfl) rfl [.tmp 2] (by kernel_rfl) fun Q hQ => ?_
  obtain ⟨E, hE⟩ : ∃ E : Nat, E = pr - 2 := ⟨_, rfl⟩
  have hEi : (2305843009213693949 : Int) = (E : Int) := by rw [hE]; rfl
  have hEl : E < 18446744073709551616 := by rw [hE]; decide
  have hpp : 1 < pr := by decide
  have hpl : pr < 18446744073709551616 := by decide
  rw [← hE] at hQ
  generalize hpr : pr = p at *
  simp (maxSteps := 1000000) (disch := (first | omega | (simp only [List.length_append, List.length_set, List.length_cons, List.length_nil, List.length_replicate, List.length_take, List.length_drop, List.length_map, List.length_range, true_and, and_true]; (try omega); done) | fail)) only [go_sem, Int.reduceEq, Int.reduceToNat, Nat.reduceAdd, Nat.reduceMul, Nat.reduceEqDiff, ↓reduceIte]
  rw [hEi]
  clear hEi hE
  refine LoopV_of (X := Nat × Nat × Nat) (st := fun x => ([(0, .lit (.int .u64 (x.2.1 : Int))), (3, .lit (.int .u64 (x.1 : Int))), (4, .lit (.int .u64 (x.2.2 : Int)))], []))
    (inv := fun x => x.1 < p ∧ x.2.1 < 18446744073709551616 ∧ x.2.2 ≤ E ∧ x.1 * x.2.1 ^ x.2.2 % p = n ^ E % p) (m := fun x => x.2.2) (1, n, E) [] rfl (by simp (disch := (first | omega | (simp only [List.length_append, List.length_set, List.length_cons, List.length_nil, List.length_replicate, List.length_take, List.length_drop, List.length_map, List.length_range, true_and, and_true]; (try omega); done) | fail)) only [go_sem, Int.reduceEq, Int.reduceToNat, Nat.reduceAdd, Nat.reduceMul, Nat.reduceEqDiff, ↓reduceIte, true_and, and_true, and_self, List.drop_zero, List.take_length, Nat.le_refl, V.lit.injEq, Value.int.injEq, Value.bool.injEq]; try (first | omega | (simp; done) | (simp; omega))) (by simp (disch := (first | omega | (simp only [List.length_append, List.length_set, List.length_cons, List.length_nil, List.length_replicate, List.length_take, List.length_drop, List.length_map, List.length_range, true_and, and_true]; (try omega); done) | fail)) only [go_sem, Int.reduceEq, Int.reduceToNat, Nat.reduceAdd, Nat.reduceMul, Nat.reduceEqDiff, ↓reduceIte, true_and, and_true, and_self, List.drop_zero, List.take_length, Nat.le_refl, V.lit.injEq, Value.int.injEq, Value.bool.injEq]; try (first | omega | (simp; done) | (simp; omega))) ⟨hpp, hn, Nat.le_refl _, by simp⟩ ?_
  rintro ⟨o, m, e⟩ ⟨ho, hm, he, hv⟩
  simp only at ho hm he hv ⊢
  by_cases h0 : 0 < e
  · have hom : o * m % p < p := Nat.mod_lt _ (by omega)
    have hmm : m * m % p < p := Nat.mod_lt _ (by omega)
    have e2 : (e : Int) % 2 = ((e % 2 : Nat) : Int) := by omega
    by_cases h1 : e % 2 = 1
    · simp (maxSteps := 1000000) (disch := (first | omega | (simp only [List.length_append, List.length_set, List.length_cons, List.length_nil, List.length_replicate, List.length_take, List.length_drop, List.length_map, List.length_range, true_and, and_true]; (try omega); done) | fail)) only [go_sem, Int.reduceEq, Int.reduceToNat, Nat.reduceAdd, Nat.reduceMul, Nat.reduceEqDiff, ↓reduceIte]
      refine callV0 (hpr ▸ hmul_fn (a := o) (b := m) (by omega) hm) rfl rfl ?_
      simp (maxSteps := 1000000) (disch := (first | omega | (simp only [List.length_append, List.length_set, List.length_cons, List.length_nil, List.length_replicate, List.length_take, List.length_drop, List.length_map, List.length_range, true_and, and_true]; (try omega); done) | fail)) only [go_sem, Int.reduceEq, Int.reduceToNat, Nat.reduceAdd, Nat.reduceMul, Nat.reduceEqDiff, ↓reduceIte]
      refine callV0 (hpr ▸ hmul_fn (a := m) (b := m) hm hm) rfl rfl ?_
      simp (maxSteps := 1000000) (disch := (first | omega | (simp only [List.length_append, List.length_set, List.length_cons, List.length_nil, List.length_replicate, List.length_take, List.length_drop, List.length_map, List.length_range, true_and, and_true]; (try omega); done) | fail)) only [go_sem, Int.reduceEq, Int.reduceToNat, Nat.reduceAdd, Nat.reduceMul, Nat.reduceEqDiff, ↓reduceIte]
      refine nextW (o * m % p, m * m % p, e / 2) [] ⟨hom, by simp only; omega, by simp only; omega, by simp only; rw [pow_odd _ _ _ _ h1, hv]⟩ (by simp only; omega)
    · simp (maxSteps := 1000000) (disch := (first | omega | (simp only [List.length_append, List.length_set, List.length_cons, List.length_nil, List.length_replicate, List.length_take, List.length_drop, List.length_map, List.length_range, true_and, and_true]; (try omega); done) | fail)) only [go_sem, Int.reduceEq, Int.reduceToNat, Nat.reduceAdd, Nat.reduceMul, Nat.reduceEqDiff, ↓reduceIte]
      refine callV0 (hpr ▸ hmul_fn (a := m) (b := m) hm hm) rfl rfl ?_
      simp (maxSteps := 1000000) (disch := (first | omega | (simp only [List.length_append, List.length_set, List.length_cons, List.length_nil, List.length_replicate, List.length_take, List.length_drop, List.length_map, List.length_range, true_and, and_true]; (try omega); done) | fail)) only [go_sem, Int.reduceEq, Int.reduceToNat, Nat.reduceAdd, Nat.reduceMul, Nat.reduceEqDiff, ↓reduceIte]
      refine nextW (o, m * m % p, e / 2) [] ⟨ho, by simp only; omega, by simp only; omega, by simp only; rw [pow_even _ _ _ _ h1, hv]⟩ (by simp only; omega)
  · obtain rfl : e = 0 := by omega
    rw [Nat.pow_zero, Nat.mul_one, Nat.mod_eq_of_lt ho] at hv
    rw [hv]
    simp (maxSteps := 1000000) (disch := (first | omega | (simp only [List.length_append, List.length_set, List.length_cons, List.length_nil, List.length_replicate, List.length_take, List.length_drop, List.length_map, List.length_range, true_and, and_true]; (try omega); done) | fail)) only [go_sem, Int.reduceEq, Int.reduceToNat, Nat.reduceAdd, Nat.reduceMul, Nat.reduceEqDiff, ↓reduceIte]
    exact endW [] hQ
end Go.Proofs.Ytdpekigpjihnkaa
