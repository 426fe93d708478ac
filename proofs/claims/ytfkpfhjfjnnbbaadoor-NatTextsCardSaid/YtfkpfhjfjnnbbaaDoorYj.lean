import Derived.Test.YtfkpfhjfjnnbbaaDoorYi
import Derived.Test.YtfkpfhjfjnnbbaaDoorNe
/-! Law 5: what its statements share. -/
namespace Go.Proofs.YtfkpfhjfjnnbbaaDoor
open Go.Eng Go.Vx
set_option linter.unusedSimpArgs false
set_option linter.unusedVariables false
set_option maxRecDepth 100000
theorem is5_fn {n : Nat} (h1 : (wg n).length ≤ 100000) (h2 : (dg n).length ≤ 100000) : Fn1 Tryd.prog 22 [NV n, DV n] [] (.lit (.bool true)) [] := by
  refine fn1N_of pl22 (by kernel_rfl) Tryd.call22 Tryd.func22 rfl (by kernel_rfl) rfl [.tmp 4] (by kernel_rfl) fun Q hQ => ?_
  simp (maxSteps := 1000000) (disch := (first | omega | (simp only [lnA, List.length_map, List.length_range, true_and, and_true]; (try omega); done) | fail)) only [go_sem, Int.reduceEq, Int.reduceToNat, Nat.reduceAdd, Nat.reduceMul, Nat.reduceEqDiff, ↓reduceIte]
  refine callV0 (ntext_fn h1) rfl rfl ?_
  simp (maxSteps := 1000000) (disch := (first | omega | (simp only [lnA, List.length_map, List.length_range, true_and, and_true]; (try omega); done) | fail)) only [go_sem, Int.reduceEq, Int.reduceToNat, Nat.reduceAdd, Nat.reduceMul, Nat.reduceEqDiff, ↓reduceIte]
  refine callV0 (rtext_fn h2) rfl rfl ?_
  simp (maxSteps := 1000000) (disch := (first | omega | (simp only [lnA, List.length_map, List.length_range, true_and, and_true]; (try omega); done) | fail)) only [go_sem, eq_self, decide_true, Int.reduceEq, Int.reduceToNat, Nat.reduceAdd, Nat.reduceMul, Nat.reduceEqDiff, ↓reduceIte]
  exact endW [] hQ
theorem few5_fn {W : List Int} {n : Nat} (hL : W.length ≤ 9223372036854775807) (hn : n ≤ 1000000) : Fn1 Tryd.prog 14 [.row 1 (W.map (ie .u64)), .lit (.int .i64 (n : Int))] [] (.row 1 ((W.take n).map (ie .u64))) [] := by
  refine fn1N_of pl14 (by kernel_rfl) Tryd.call14 Tryd.func14 rfl (by kernel_rfl) rfl [.tmp 4] (by kernel_rfl) fun Q hQ => ?_
  by_cases h : n < W.length
  · simp (maxSteps := 1000000) (disch := (first | omega | (simp only [lnA, List.length_map, List.length_range, true_and, and_true]; (try omega); done) | fail)) only [go_sem, List.drop_zero, Int.reduceEq, Int.reduceToNat, Nat.reduceAdd, Nat.reduceMul, Nat.reduceEqDiff, ↓reduceIte]
    exact endW [] hQ
  · have e : W.take n = W := List.take_of_length_le (by omega)
    rw [e] at hQ
    simp (maxSteps := 1000000) (disch := (first | omega | (simp only [lnA, List.length_map, List.length_range, true_and, and_true]; (try omega); done) | fail)) only [go_sem, Int.reduceEq, Int.reduceToNat, Nat.reduceAdd, Nat.reduceMul, Nat.reduceEqDiff, ↓reduceIte]
    exact endW [] hQ
theorem decS_of {n k : Nat} (hk : 1 ≤ k) (h1 : n < 10 ^ k) (h2 : 10 ^ (k - 1) ≤ n) : decS n = decB (decL k n) := by
  unfold decS
  rw [nd10_eq hk h1 (.inl h2)]
theorem tA : decS 100000000000000000000 = [49, 48, 48, 48, 48, 48, 48, 48, 48, 48, 48, 48, 48, 48, 48, 48, 48, 48, 48, 48, 48] := by
  rw [decS_of (k := 21) (by decide) (by decide) (by decide)]
  decide
theorem tQ : decS 14285714285714285714 = [49, 52, 50, 56, 53, 55, 49, 52, 50, 56, 53, 55, 49, 52, 50, 56, 53, 55, 49, 52] := by
  rw [decS_of (k := 20) (by decide) (by decide) (by decide)]
  decide
theorem t2 : decS 2 = [50] := by rw [decS_small (by decide)]; decide
theorem awake5_fn : Fn1 Tryd.prog 13 [] [] (.lit (.bool true)) [] := by
  have b10 : bl 10 ≤ 4 := bl_le_of (by decide)
  have hp := npow_fn (a := 10) (n := 20) (by decide) (by omega) (fun _ => by omega)
  rw [show 10 ^ 20 = 100000000000000000000 from by decide] at hp
  have w1 : (wg 100000000000000000000).length ≤ 2 := wg_len (by decide)
  have w2 : (wg 14285714285714285714).length ≤ 2 := wg_len (by decide)
  have w3 : (wg 2).length ≤ 1 := wg_one (by decide)
  have w7 : (wg 7).length ≤ 1 := wg_one (by decide)
  have hd := ndiv_fn (a := 100000000000000000000) (b := 7) (by decide) (by omega) (by omega)
  rw [show 100000000000000000000 / 7 = 14285714285714285714 from by decide, show 100000000000000000000 % 7 = 2 from by decide] at hd
  have ha := ntext_fn (n := 100000000000000000000) (by omega)
  have hq := ntext_fn (n := 14285714285714285714) (by omega)
  have hr := ntext_fn (n := 2) (by omega)
  rw [tA] at ha
  rw [tQ] at hq
  rw [t2] at hr
  have h10 := of1_fn (x := 10) (by decide)
  have h7 := of1_fn (x := 7) (by decide)
  generalize (100000000000000000000 : Nat) = A at *
  generalize (14285714285714285714 : Nat) = B at *
  refine fn1N_of pl13 (by kernel_rfl) Tryd.call13 Tryd.func13 rfl (by kernel_rfl) rfl [.tmp 0] (by kernel_rfl) fun Q hQ => ?_
  simp (maxSteps := 1000000) (disch := (first | omega | (simp only [lnA, List.length_map, List.length_range, true_and, and_true]; (try omega); done) | fail)) only [go_sem, Int.reduceEq, Int.reduceToNat, Nat.reduceAdd, Nat.reduceMul, Nat.reduceEqDiff, ↓reduceIte]
  refine callW [] [0] (h10) ?_
  simp (maxSteps := 1000000) (disch := (first | omega | (simp only [lnA, List.length_map, List.length_range, true_and, and_true]; (try omega); done) | fail)) only [go_sem, Int.reduceEq, Int.reduceToNat, Nat.reduceAdd, Nat.reduceMul, Nat.reduceEqDiff, ↓reduceIte]
  refine callV0 (hp) rfl rfl ?_
  simp (maxSteps := 1000000) (disch := (first | omega | (simp only [lnA, List.length_map, List.length_range, true_and, and_true]; (try omega); done) | fail)) only [go_sem, Int.reduceEq, Int.reduceToNat, Nat.reduceAdd, Nat.reduceMul, Nat.reduceEqDiff, ↓reduceIte]
  refine callW [] [2] (h7) ?_
  simp (maxSteps := 1000000) (disch := (first | omega | (simp only [lnA, List.length_map, List.length_range, true_and, and_true]; (try omega); done) | fail)) only [go_sem, Int.reduceEq, Int.reduceToNat, Nat.reduceAdd, Nat.reduceMul, Nat.reduceEqDiff, ↓reduceIte]
  refine callV0 (hd) rfl rfl ?_
  simp (maxSteps := 1000000) (disch := (first | omega | (simp only [lnA, List.length_map, List.length_range, true_and, and_true]; (try omega); done) | fail)) only [go_sem, Int.reduceEq, Int.reduceToNat, Nat.reduceAdd, Nat.reduceMul, Nat.reduceEqDiff, ↓reduceIte]
  refine callV0 (ha) rfl rfl ?_
  simp (maxSteps := 1000000) (disch := (first | omega | (simp only [lnA, List.length_map, List.length_range, true_and, and_true]; (try omega); done) | fail)) only [go_sem, eq_self, decide_true, Int.reduceEq, Int.reduceToNat, Nat.reduceAdd, Nat.reduceMul, Nat.reduceEqDiff, ↓reduceIte]
  refine callV0 (hq) rfl rfl ?_
  simp (maxSteps := 1000000) (disch := (first | omega | (simp only [lnA, List.length_map, List.length_range, true_and, and_true]; (try omega); done) | fail)) only [go_sem, eq_self, decide_true, Int.reduceEq, Int.reduceToNat, Nat.reduceAdd, Nat.reduceMul, Nat.reduceEqDiff, ↓reduceIte]
  refine callV0 (hr) rfl rfl ?_
  simp (maxSteps := 1000000) (disch := (first | omega | (simp only [lnA, List.length_map, List.length_range, true_and, and_true]; (try omega); done) | fail)) only [go_sem, eq_self, decide_true, Int.reduceEq, Int.reduceToNat, Nat.reduceAdd, Nat.reduceMul, Nat.reduceEqDiff, ↓reduceIte]
  exact endW [] hQ
end Go.Proofs.YtfkpfhjfjnnbbaaDoor
