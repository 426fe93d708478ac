import Derived.Test.YtdmdmdoeahhkiaaGreatDoorD3
import Derived.Test.YtdmdmdoeahhkiaaGreatDoorRj
import Derived.Test.YtdmdmdoeahhkiaaGreatDoorE8
namespace Go.Proofs.YtdmdmdoeahhkiaaGreatDoor
open Go.Eng Go.Vx
set_option linter.unusedSimpArgs false
set_option linter.unusedVariables false
set_option maxRecDepth 100000
theorem nint_fn {n M : Nat} {m : Int} (hm : max 0 m = (M : Int)) (hM : M ≤ 9223372036854775807) (hn : (wg n).length ≤ 1000000) : Fn1 Tryz.prog 22 [NV n, .lit (.int .i64 m)] [] (.lit (.int .i64 ((min n M : Nat) : Int))) [] := by
  refine fn1N_of pl22 (by kernel_rfl) Tryz.call22 Tryz.func22 rfl (by kernel_rfl) rfl [.tmp 4] (by kernel_rfl) fun Q hQ => ?_
  have hnl := nl_len (wg n)
  by_cases h1 : 1 < (wg n).length
  · have hgt : 18446744073709551616 ≤ n := by
      refine Classical.byContradiction fun h => ?_
      have := wg_one (n := n) (by omega)
      omega
    rw [show min n M = M by omega] at hQ
    have hc : decide ((1 : Int) < ((nl (wg n)).length : Int)) = true := decide_eq_true (by omega)
    simp (maxSteps := 1000000) (disch := (first | omega | (simp only [lnA, List.length_map, List.length_range, true_and, and_true]; (try omega); done) | fail)) only [go_sem, hm, hc, Int.reduceEq, Int.reduceToNat, Nat.reduceAdd, Nat.reduceMul, Nat.reduceEqDiff, ↓reduceIte]
    exact endW [] hQ
  · have hc : decide ((1 : Int) < ((nl (wg n)).length : Int)) = false := decide_eq_false (by omega)
    by_cases h0 : n = 0
    · subst h0
      rw [wg_zero] at hnl
      rw [show min 0 M = 0 by omega] at hQ
      have hz := zero_fn (n := 0) (by rw [wg_zero]; decide)
      rw [NV_zero] at hz
      simp (maxSteps := 1000000) (disch := (first | omega | (simp only [lnA, List.length_map, List.length_range, true_and, and_true]; (try omega); done) | fail)) only [go_sem, hm, wg_zero, Int.reduceEq, Int.reduceToNat, Nat.reduceAdd, Nat.reduceMul, Nat.reduceEqDiff, ↓reduceIte]
      refine callV0 (hz) rfl rfl ?_
      refine runW ?_
      exact endW [] hQ
    · have h2 : (wg n).length = 1 := by have := wg_of_pos h0; omega
      have hw := wg_of_one h2
      have hlt : n < 18446744073709551616 := wg_lt n n (by rw [hw]; simp)
      have hn1 : nl (wg n) = [(n : Int)] := by rw [hw]; rfl
      by_cases hle : M < n
      · rw [show min n M = M by omega] at hQ
        simp (maxSteps := 1000000) (disch := (first | omega | (simp only [lnA, List.length_map, List.length_range, true_and, and_true]; (try omega); done) | fail)) only [go_sem, hm, hn1, Int.reduceEq, Int.reduceToNat, Nat.reduceAdd, Nat.reduceMul, Nat.reduceEqDiff, ↓reduceIte]
        exact endW [] hQ
      · rw [show min n M = n by omega] at hQ
        have hz := zero_fn (n := n) (by omega)
        rw [decide_eq_false h0] at hz
        unfold NV at hz
        rw [hn1] at hz
        simp (maxSteps := 1000000) (disch := (first | omega | (simp only [lnA, List.length_map, List.length_range, true_and, and_true]; (try omega); done) | fail)) only [go_sem, hm, hn1, Int.reduceEq, Int.reduceToNat, Nat.reduceAdd, Nat.reduceMul, Nat.reduceEqDiff, ↓reduceIte]
        refine callV0 (hz) rfl rfl ?_
        refine runW ?_
        exact endW [] hQ
end Go.Proofs.YtdmdmdoeahhkiaaGreatDoor

namespace Go.Proofs.YtdmdmdoeahhkiaaGreatDoor
open Go.Eng Go.Vx
set_option linter.unusedSimpArgs false
set_option linter.unusedVariables false
set_option maxRecDepth 100000
theorem log10_fn {x : Nat} (hx : x ≤ 64) : Fn1 Tryz.prog 188 [.lit (.int .i64 (x : Int))] [] (.lit (.int .i64 ((x * 78913 / 262144 : Nat) : Int))) [] := by
  refine fn1N_of pl188 (by kernel_rfl) Tryz.call188 Tryz.func188 rfl (by kernel_rfl) rfl [.tmp 2] (by kernel_rfl) fun Q hQ => ?_
  refine runW ?_
  exact endW [] hQ
theorem bool2_fn {b : Bool} : Fn1 Tryz.prog 189 [.lit (.bool b)] [] (.lit (.int .i64 (if b then 1 else 0))) [] := by
  refine fn1N_of pl189 (by kernel_rfl) Tryz.call189 Tryz.func189 rfl (by kernel_rfl) rfl [.tmp 2] (by kernel_rfl) fun Q hQ => ?_
  cases b
  · refine runW ?_
    exact endW [] hQ
  · refine runW ?_
    exact endW [] hQ
theorem numDigits_fn {d : Nat} (h0 : d ≠ 0) (h : d < 18446744073709551616) : Fn1 Tryz.prog 168 [.lit (.int .u64 (d : Int))] [] (.lit (.int .i64 (nd10 d : Int))) [] := by
  refine fn1N_of pl168 (by kernel_rfl) Tryz.call168 Tryz.func168 rfl (by kernel_rfl) rfl [.tmp 2] (by kernel_rfl) fun Q hQ => ?_
  obtain ⟨h1, h2⟩ := nd10_log h0 h
  have hb := bl_le_of (n := d) (k := 64) (by omega)
  have hl := log10_fn hb
  rw [h1] at hQ
  generalize bl d * 78913 / 262144 = k at *
  have hidx := fun (F : Bool → V → Prop) => idxV_lay (P := Tryz.prog) (t := 256) (len := 20) (et := 108) (m := k) (kd := .i64) (F := F) (g := 2) (by kernel_rfl) h2
  have hag : agOf Tryz.prog 108 = some none := by kernel_rfl
  refine runW ?_
  refine callV0 (len64_fn h) rfl rfl ?_
  refine runW ?_
  refine callV0 (hl) rfl rfl ?_
  simp (maxSteps := 1000000) (disch := (first | omega | (simp only [lnA, List.length_map, List.length_range, true_and, and_true]; (try omega); done) | fail)) only [go_sem, hidx, ldV_of hag, layK_pow h2, Int.reduceEq, Int.reduceToNat, Nat.reduceAdd, Nat.reduceMul, Nat.reduceEqDiff, ↓reduceIte]
  by_cases hc : 10 ^ k ≤ d
  · rw [if_pos hc] at hQ
    have hd : decide (((10 ^ k : Nat) : Int) ≤ (d : Int)) = true := decide_eq_true (by omega)
    simp (maxSteps := 1000000) (disch := (first | omega | (simp only [lnA, List.length_map, List.length_range, true_and, and_true]; (try omega); done) | fail)) only [go_sem, hd, Int.reduceEq, Int.reduceToNat, Nat.reduceAdd, Nat.reduceMul, Nat.reduceEqDiff, ↓reduceIte]
    refine callV0 (bool2_fn (b := true)) rfl rfl ?_
    refine runW ?_
    exact endW [] hQ
  · rw [if_neg hc] at hQ
    have hd : decide (((10 ^ k : Nat) : Int) ≤ (d : Int)) = false := decide_eq_false (by omega)
    simp (maxSteps := 1000000) (disch := (first | omega | (simp only [lnA, List.length_map, List.length_range, true_and, and_true]; (try omega); done) | fail)) only [go_sem, hd, Int.reduceEq, Int.reduceToNat, Nat.reduceAdd, Nat.reduceMul, Nat.reduceEqDiff, ↓reduceIte]
    refine callV0 (bool2_fn (b := false)) rfl rfl ?_
    refine runW ?_
    exact endW [] hQ
end Go.Proofs.YtdmdmdoeahhkiaaGreatDoor
