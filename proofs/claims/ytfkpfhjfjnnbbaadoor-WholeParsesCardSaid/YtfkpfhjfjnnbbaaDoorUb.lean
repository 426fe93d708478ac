import Derived.Test.YtfkpfhjfjnnbbaaDoorUa
/-! Law 6: what its statements share. -/
namespace Go.Proofs.YtfkpfhjfjnnbbaaDoor
open Go.Eng Go.Vx
set_option linter.unusedSimpArgs false
set_option linter.unusedVariables false
set_option maxRecDepth 100000
theorem WV_zero : WV 0 = .agg [.row 1 [], .lit (.bool false)] := by
  unfold WV
  rw [show (0 : Int).natAbs = 0 from rfl, wg_zero]
  rfl
theorem zS_lit (n : Nat) (h : n < 10) : decS n = [UInt8.ofNat (48 + n)] := by
  have : ∀ n, n < 10 → decS n = [UInt8.ofNat (48 + n)] := fun n h => by
    rw [decS_small h]
  exact this n h
theorem awake6_fn : Fn1 Tryd.prog 41 [] [] (.lit (.bool true)) [] := by
  have o1 := wof_fn (n := -7) (by decide) (by decide)
  have o2 := wof_fn (n := 2) (by decide) (by decide)
  have w7 : (wg 7).length ≤ 1 := wg_one (by decide)
  have w2 : (wg 2).length ≤ 1 := wg_one (by decide)
  have w4 : (wg 4).length ≤ 1 := wg_one (by decide)
  have w1 : (wg 1).length ≤ 1 := wg_one (by decide)
  have d := wdiv_fn (x := -7) (y := 2) (by decide) (by rw [show (-7 : Int).natAbs = 7 from rfl]; omega) (show (wg 2).length ≤ 999998 by omega)
  rw [show (-7 : Int) / 2 = -4 from by decide, show (-7 : Int) % 2 = 1 from by decide] at d
  have t1 := wtext_fn (x := -4) (by rw [show (-4 : Int).natAbs = 4 from rfl]; omega)
  have t2 := wtext_fn (x := 1) (show (wg 1).length ≤ 100000 by omega)
  rw [show zS (-4) = [45, 52] by unfold zS; rw [if_pos (by decide), show (-4 : Int).natAbs = 4 from rfl, zS_lit 4 (by decide)]; decide] at t1
  rw [show zS 1 = [49] by unfold zS; rw [if_neg (by decide), show (1 : Int).natAbs = 1 from rfl, zS_lit 1 (by decide)]; decide] at t2
  generalize (-4 : Int) = A at *
  refine fn1N_of pl41 (by kernel_rfl) Tryd.call41 Tryd.func41 rfl (by kernel_rfl) rfl [.tmp 0] (by kernel_rfl) fun Q hQ => ?_
  repeat (first | (refine callV0 (o1) rfl rfl ?_) | (refine callV0 (o2) rfl rfl ?_) | (refine callV0 (d) rfl rfl ?_) | (refine callV0 (t1) rfl rfl ?_) | (refine callV0 (t2) rfl rfl ?_) | (simp (maxSteps := 1000000) (disch := (first | omega | (simp only [lnA, List.length_map, List.length_range, true_and, and_true]; (try omega); done) | fail)) only [go_sem, eq_self, decide_true, Int.reduceEq, Int.reduceToNat, Nat.reduceAdd, Nat.reduceMul, Nat.reduceEqDiff, ↓reduceIte]))
  exact endW [] hQ
end Go.Proofs.YtfkpfhjfjnnbbaaDoor
