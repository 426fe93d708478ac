import Derived.Test.YteookgjmohokiaaGreatWh
/-! The document's codes, written. -/
namespace Go.Proofs.YteookgjmohokiaaGreat
open Go.Eng Go.Vx
set_option linter.unusedSimpArgs false
set_option linter.unusedVariables false
set_option maxRecDepth 100000
theorem refGamma_fn {L : List Bool} {n : Nat} (hL : L.length ≤ 1099511627000) (hn : n < 18446744073709551616) (h0 : n ≠ 0) : Fn1 Tryz.prog 8 [.row 1 (L.map be), .lit (.int .u64 n)] []
    (.row 1 ((L ++ gammaB n).map be)) [] := by
  refine fn1N_of pl8 (by kernel_rfl) Tryz.call8 Tryz.func8 rfl (by kernel_rfl) rfl [.tmp 4] (by kernel_rfl) fun Q hQ => ?_
  have hb := bl_pos h0
  have hb2 := bl_le_of (n := n) (k := 64) hn
  have hb3 := bl_lt n
  simp (maxSteps := 1000000) (disch := (first | omega | (simp only [lnA, List.length_map, List.length_range, true_and, and_true]; (try omega); done) | fail)) only [go_sem, Int.reduceEq, Int.reduceToNat, Nat.reduceAdd, Nat.reduceMul, Nat.reduceEqDiff, ↓reduceIte]
  refine callV0 (high_fn hn h0) rfl rfl ?_
  simp (maxSteps := 1000000) (disch := (first | omega | (simp only [lnA, List.length_map, List.length_range, true_and, and_true]; (try omega); done) | fail)) only [go_sem, Int.reduceEq, Int.reduceToNat, Nat.reduceAdd, Nat.reduceMul, Nat.reduceEqDiff, ↓reduceIte]
  refine callV0 (refPut_fn (L := L) (n := 0) (m := bl n - 1) (by omega) (by omega) (by omega) (Nat.two_pow_pos _)) rfl rfl ?_
  simp (maxSteps := 1000000) (disch := (first | omega | (simp only [lnA, List.length_map, List.length_range, true_and, and_true]; (try omega); done) | fail)) only [go_sem, Int.reduceEq, Int.reduceToNat, Nat.reduceAdd, Nat.reduceMul, Nat.reduceEqDiff, ↓reduceIte]
  refine callV0 (high_fn hn h0) rfl rfl ?_
  simp (maxSteps := 1000000) (disch := (first | omega | (simp only [lnA, List.length_map, List.length_range, true_and, and_true]; (try omega); done) | fail)) only [go_sem, Int.reduceEq, Int.reduceToNat, Nat.reduceAdd, Nat.reduceMul, Nat.reduceEqDiff, ↓reduceIte]
  rw [show ((bl n - 1 : Nat) : Int) + 1 = (bl n : Int) by omega]
  refine callV0 (refPut_fn (L := L ++ numBits 0 (bl n - 1)) (n := n) (m := bl n) (by simp [numBits_len]; omega) hn hb2 hb3) rfl rfl ?_
  simp (maxSteps := 1000000) (disch := (first | omega | (simp only [lnA, List.length_map, List.length_range, true_and, and_true]; (try omega); done) | fail)) only [go_sem, Int.reduceEq, Int.reduceToNat, Nat.reduceAdd, Nat.reduceMul, Nat.reduceEqDiff, ↓reduceIte]
  rw [List.append_assoc]
  unfold gammaB at hQ
  exact endW [] hQ
end Go.Proofs.YteookgjmohokiaaGreat
