import Derived.Test.YtdmdmdoeahhkiaaDoorYc
import Derived.Test.YtdmdmdoeahhkiaaDoorYa
import Derived.Test.YtdmdmdoeahhkiaaDoorRj
namespace Go.Proofs.YtdmdmdoeahhkiaaDoor
open Go.Eng Go.Vx
set_option linter.unusedSimpArgs false
set_option linter.unusedVariables false
set_option maxRecDepth 100000
theorem log10_fn {x : Nat} (hx : x ≤ 64) : Fn1 Tryd.prog 94 [.lit (.int .i64 (x : Int))] [] (.lit (.int .i64 ((x * 78913 / 262144 : Nat) : Int))) [] := by
  refine fn1N_of pl94 (by kernel_rfl) Tryd.call94 Tryd.func94 rfl (by kernel_rfl) rfl [.tmp 2] (by kernel_rfl) fun Q hQ => ?_
  refine runW ?_
  exact endW [] hQ
theorem bool2_fn {b : Bool} : Fn1 Tryd.prog 95 [.lit (.bool b)] [] (.lit (.int .i64 (if b then 1 else 0))) [] := by
  refine fn1N_of pl95 (by kernel_rfl) Tryd.call95 Tryd.func95 rfl (by kernel_rfl) rfl [.tmp 2] (by kernel_rfl) fun Q hQ => ?_
  cases b
  · refine runW ?_
    exact endW [] hQ
  · refine runW ?_
    exact endW [] hQ
theorem numDigits_fn {d : Nat} (h0 : d ≠ 0) (h : d < 18446744073709551616) : Fn1 Tryd.prog 86 [.lit (.int .u64 (d : Int))] [] (.lit (.int .i64 (nd10 d : Int))) [] := by
  refine fn1N_of pl86 (by kernel_rfl) Tryd.call86 Tryd.func86 rfl (by kernel_rfl) rfl [.tmp 2] (by kernel_rfl) fun Q hQ => ?_
  obtain ⟨h1, h2⟩ := nd10_log h0 h
  have hb := bl_le_of (n := d) (k := 64) (by omega)
  have hl := log10_fn hb
  rw [h1] at hQ
  generalize bl d * 78913 / 262144 = k at *
  have hidx := fun (F : Bool → V → Prop) => idxV_lay (P := Tryd.prog) (t := 137) (len := 20) (et := 44) (m := k) (kd := .i64) (F := F) (g := 2) (by kernel_rfl) h2
  have hag : agOf Tryd.prog 44 = some none := by kernel_rfl
  refine runW ?_
  refine callV0 (len64_fn h) rfl rfl ?_
  refine runW ?_
  refine callV0 (hl) rfl rfl ?_
  simp (maxSteps := 1000000) (disch := (first | omega | (simp only [lnA, List.length_map, List.length_range, true_and, and_true]; (try omega); done) | fail)) only [go_sem, hidx, ldV_of hag, layK_pow h2, Int.reduceEq, Int.reduceToNat, Nat.reduceAdd, Nat.reduceMul, Nat.reduceEqDiff, ↓reduceIte]
  by_cases hc : 10 ^ k ≤ d
  · rw [if_pos hc] at hQ
    have hd : decide (((10 ^ k : Nat) : Int) ≤ (d : Int)) = true := decide_eq_true (by omega)
    simp (maxSteps := 1000000) (disch := (first | omega | (simp only [lnA, List.length_map, List.length_range, true_and, and_true]; (try omega); done) | fail)) only [go_sem, hd, Int.reduceEq, Int.reduceToNat, Nat.reduceAdd, Nat.reduceMul, Nat.reduceEqDiff, ↓reduceIte]
    refine callV0 (bool2_fn (b := true)) rfl rfl ?_
    refine runW ?_
    exact endW [] hQ
  · rw [if_neg hc] at hQ
    have hd : decide (((10 ^ k : Nat) : Int) ≤ (d : Int)) = false := decide_eq_false (by omega)
    simp (maxSteps := 1000000) (disch := (first | omega | (simp only [lnA, List.length_map, List.length_range, true_and, and_true]; (try omega); done) | fail)) only [go_sem, hd, Int.reduceEq, Int.reduceToNat, Nat.reduceAdd, Nat.reduceMul, Nat.reduceEqDiff, ↓reduceIte]
    refine callV0 (bool2_fn (b := false)) rfl rfl ?_
    refine runW ?_
    exact endW [] hQ
end Go.Proofs.YtdmdmdoeahhkiaaDoor
