import Derived.Test.YtpkfddfkacijoaaD3
namespace Go.Proofs.Ytpkfddfkacijoaa
open Go.Eng Go.Vx
set_option linter.unusedSimpArgs false
set_option linter.unusedVariables false
set_option maxRecDepth 100000
theorem nint_fn {n M : Nat} {m : Int} (hm : max 0 m = (M : Int)) (hM : M ≤ 9223372036854775807) (hn : (wg n).length ≤ 1000000) : Fn1 Try.prog 90 [NV n, .lit (.int .i64 m)] [] (.lit (.int .i64 ((min n M : Nat) : Int))) [] := by
  refine fn1N_of pl90 (by kernel_rfl) Try.call90 Try.func90 rfl (by kernel_rfl) rfl [.tmp 4] (by kernel_rfl) fun Q hQ => ?_
  have hnl := nl_len (wg n)
  by_cases h1 : 1 < (wg n).length
  · have hgt : 18446744073709551616 ≤ n := by
      refine Classical.byContradiction fun h => ?_
      have := wg_one (n := n) (by omega)
      omega
    rw [show min n M = M by omega] at hQ
    have hc : decide ((1 : Int) < ((nl (wg n)).length : Int)) = true := decide_eq_true (by omega)
    simp (maxSteps := 1000000) (disch := (first | omega | (simp only [lnA, List.length_map, List.length_range, true_and, and_true]; (try omega); done) | fail)) only [go_sem, hm, hc, Int.reduceEq, Int.reduceToNat, Nat.reduceAdd, Nat.reduceMul, Nat.reduceEqDiff, ↓reduceIte]
    exact endW [] hQ
  · have hc : decide ((1 : Int) < ((nl (wg n)).length : Int)) = false := decide_eq_false (by omega)
    by_cases h0 : n = 0
    · subst h0
      rw [wg_zero] at hnl
      rw [show min 0 M = 0 by omega] at hQ
      have hz := zero_fn (n := 0) (by rw [wg_zero]; decide)
      rw [NV_zero] at hz
      simp (maxSteps := 1000000) (disch := (first | omega | (simp only [lnA, List.length_map, List.length_range, true_and, and_true]; (try omega); done) | fail)) only [go_sem, hm, wg_zero, Int.reduceEq, Int.reduceToNat, Nat.reduceAdd, Nat.reduceMul, Nat.reduceEqDiff, ↓reduceIte]
      refine callV0 (hz) rfl rfl ?_
      refine runW ?_
      exact endW [] hQ
    · have h2 : (wg n).length = 1 := by have := wg_of_pos h0; omega
      have hw := wg_of_one h2
      have hlt : n < 18446744073709551616 := wg_lt n n (by rw [hw]; simp)
      have hn1 : nl (wg n) = [(n : Int)] := by rw [hw]; rfl
      by_cases hle : M < n
      · rw [show min n M = M by omega] at hQ
        simp (maxSteps := 1000000) (disch := (first | omega | (simp only [lnA, List.length_map, List.length_range, true_and, and_true]; (try omega); done) | fail)) only [go_sem, hm, hn1, Int.reduceEq, Int.reduceToNat, Nat.reduceAdd, Nat.reduceMul, Nat.reduceEqDiff, ↓reduceIte]
        exact endW [] hQ
      · rw [show min n M = n by omega] at hQ
        have hz := zero_fn (n := n) (by omega)
        rw [decide_eq_false h0] at hz
        unfold NV at hz
        rw [hn1] at hz
        simp (maxSteps := 1000000) (disch := (first | omega | (simp only [lnA, List.length_map, List.length_range, true_and, and_true]; (try omega); done) | fail)) only [go_sem, hm, hn1, Int.reduceEq, Int.reduceToNat, Nat.reduceAdd, Nat.reduceMul, Nat.reduceEqDiff, ↓reduceIte]
        refine callV0 (hz) rfl rfl ?_
        refine runW ?_
        exact endW [] hQ
end Go.Proofs.Ytpkfddfkacijoaa
