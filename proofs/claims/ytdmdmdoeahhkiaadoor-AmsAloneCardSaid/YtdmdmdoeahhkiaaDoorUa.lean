import Derived.Test.YtdmdmdoeahhkiaaDoorLb
import Derived.Test.YtdmdmdoeahhkiaaDoorFb
import Derived.Test.YtdmdmdoeahhkiaaDoorZ1
namespace Go.Proofs.YtdmdmdoeahhkiaaDoor
open Go.Eng Go.Vx
set_option linter.unusedSimpArgs false
set_option linter.unusedVariables false
set_option maxRecDepth 100000
def ZD (p m : Nat) : V := .agg [.row 1 ((nl (dg p)).map (ie .i64)), .row 1 ((nl (dg m)).map (ie .i64))]
attribute [go_sem] ZD
def zS (z : Int) : List UInt8 := if z < 0 then 45 :: decS z.natAbs else decS z.natAbs
theorem decS_wg {n k : Nat} (h : (wg n).length ≤ k) : (decS n).length ≤ 20 * k + 1 := by
  rw [decS_len]
  by_cases h0 : n = 0
  · subst h0; have : nd10 0 ≤ 1 := (nd10_le (by decide)).2 (by decide)
    omega
  · have := nd10_wg h0
    omega
theorem wtext_fn {x : Int} (hl : (wg x.natAbs).length ≤ 100000) : Fn1 Tryd.prog 46 [WV x] [] (.lit (.string (bs (zS x)))) [] := by
  have h3 := ntext_fn (n := x.natAbs) hl
  have hsl := decS_wg hl
  unfold zS
  by_cases h : x < 0
  · rw [if_pos h]
    refine fn1N_of pl46 (by kernel_rfl) Tryd.call46 Tryd.func46 rfl (by kernel_rfl) rfl [.tmp 2] (by kernel_rfl) fun Q hQ => ?_
    repeat (first | (refine callV0 (h3) rfl rfl ?_) | (simp (maxSteps := 1000000) (disch := (first | omega | (simp only [lnA, List.length_map, List.length_range, true_and, and_true]; (try omega); done) | fail)) only [go_sem, decide_eq_true h, Int.reduceEq, Int.reduceToNat, Nat.reduceAdd, Nat.reduceMul, Nat.reduceEqDiff, ↓reduceIte]))
    exact endW [] hQ
  · rw [if_neg h]
    refine fn1N_of pl46 (by kernel_rfl) Tryd.call46 Tryd.func46 rfl (by kernel_rfl) rfl [.tmp 2] (by kernel_rfl) fun Q hQ => ?_
    repeat (first | (refine callV0 (h3) rfl rfl ?_) | (simp (maxSteps := 1000000) (disch := (first | omega | (simp only [lnA, List.length_map, List.length_range, true_and, and_true]; (try omega); done) | fail)) only [go_sem, decide_eq_false h, Int.reduceEq, Int.reduceToNat, Nat.reduceAdd, Nat.reduceMul, Nat.reduceEqDiff, ↓reduceIte]))
    exact endW [] hQ
end Go.Proofs.YtdmdmdoeahhkiaaDoor
