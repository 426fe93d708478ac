import Derived.Test.YthlndppcjcjmlaaDoorQb
/-! Law 7: a fixed fact; RatSums, RatField. -/
namespace Go.Proofs.YthlndppcjcjmlaaDoor
open Go.Eng Go.Vx
set_option linter.unusedSimpArgs false
set_option linter.unusedVariables false
set_option maxRecDepth 100000
theorem RS_small {z : Int} (h : z.natAbs < 18446744073709551616) : RS 1 (z : Rat) := RS_int (wg_one h) (by decide)
theorem awake7_fn : Fn1 Tryd.prog 5 [] [] (.lit (.bool true)) [] := by
  have m1 := rmake_fn (p := 1) (q := 2) (by decide) (by decide) (by decide) (by decide) (by decide)
  have m2 := rmake_fn (p := -1) (q := -3) (by decide) (by decide) (by decide) (by decide) (by decide)
  have s1 : RS 2 (((1 : Int) : Rat) / ((2 : Int) : Rat)) := RS_div (by decide) (RS_small (by decide)) (RS_small (by decide))
  have s2 : RS 2 (((-1 : Int) : Rat) / ((-3 : Int) : Rat)) := RS_div (by decide) (RS_small (by decide)) (RS_small (by decide))
  have hx : ((1 : Int) : Rat) / ((2 : Int) : Rat) + ((-1 : Int) : Rat) / ((-3 : Int) : Rat) = mkRat 5 6 := by decide +kernel
  have a := radd_fn (s1.mono (by decide)) (s2.mono (by decide))
  have sa := RS_add s1 s2
  rw [hx] at a sa
  have t := rtxt_fn (sa.mono (by decide))
  rw [show qS (mkRat 5 6) = [53, 47, 54] by
    unfold qS zS
    rw [show (mkRat 5 6).num = 5 by decide +kernel, show (mkRat 5 6).den = 6 by decide +kernel, if_neg (by decide), if_neg (by decide), show (5 : Int).natAbs = 5 from rfl, zS_lit 5 (by decide), zS_lit 6 (by decide)]
    decide] at t
  generalize ((1 : Int) : Rat) / ((2 : Int) : Rat) = x at *
  generalize ((-1 : Int) : Rat) / ((-3 : Int) : Rat) = y at *
  refine fn1N_of pl5 (by kernel_rfl) Tryd.call5 Tryd.func5 rfl (by kernel_rfl) rfl [.tmp 0] (by kernel_rfl) fun Q hQ => ?_
  repeat (first | (refine callV0 (m1) rfl rfl ?_) | (refine callV0 (m2) rfl rfl ?_) | (refine callV0 (a) rfl rfl ?_) | (refine callV0 (t) rfl rfl ?_) | (simp (maxSteps := 1000000) (disch := (first | omega | (simp only [lnA, List.length_map, List.length_range, true_and, and_true]; (try omega); done) | fail)) only [go_sem, eq_self, decide_true, Int.reduceEq, Int.reduceToNat, Nat.reduceAdd, Nat.reduceMul, Nat.reduceEqDiff, ↓reduceIte]))
  exact endW [] hQ
theorem cmpQ_eq0 (x : Rat) : cmpQ x x = 0 := by
  unfold cmpQ
  rw [if_neg (Rat.lt_irrefl), if_neg (Rat.lt_irrefl)]
end Go.Proofs.YthlndppcjcjmlaaDoor
