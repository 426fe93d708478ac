import Derived.Test.YtdmdmdoeahhkiaaGreatDoorRc
import Derived.Test.YtdmdmdoeahhkiaaGreatDoorN2
import Derived.Test.YtdmdmdoeahhkiaaGreatDoorLa
import Derived.Test.YtdmdmdoeahhkiaaGreatDoorFw
import Derived.Test.YtdmdmdoeahhkiaaGreatDoorNe
import Derived.Test.YtdmdmdoeahhkiaaGreatDoorYi
import Derived.Test.YtdmdmdoeahhkiaaGreatDoorZ1
import Derived.Test.YtdmdmdoeahhkiaaGreatDoorNi
namespace Go.Proofs.YtdmdmdoeahhkiaaGreatDoor
open Go.Eng Go.Vx
set_option linter.unusedSimpArgs false
set_option linter.unusedVariables false
set_option maxRecDepth 100000
theorem lpow_fn {a n : Nat} (hn : n < 9223372036854775807) (ha : (dg a).length ≤ 200000) (hp : ∀ i, i ≤ n → (dg (a ^ i)).length ≤ 400000) : Fn1 Tryz.prog 26 [DV a, .lit (.int .i64 n)] [] (DV (a ^ n)) [] := by
  refine fn1N_of pl26 (by kernel_rfl) Tryz.call26 Tryz.func26 rfl (by kernel_rfl) rfl [.tmp 4] (by kernel_rfl) fun Q hQ => ?_
  refine runW ?_
  refine callV0 (small_fn (n := 1) (by decide)) rfl rfl ?_
  refine runW ?_
  refine LoopV_of (X := Nat) (st := fun i => ([(0, DV a), (1, .lit (.int .i64 (n : Int))), (5, DV (a ^ i)), (6, .lit (.int .i64 (i : Int)))], []))
    (inv := fun i => i ≤ n) (m := fun i => n - i) 0 [] rfl (by simp (disch := (first | omega | (simp only [lnA, List.length_map, List.length_range, true_and, and_true]; (try omega); done) | fail)) only [go_sem, Int.reduceEq, Int.reduceToNat, Nat.reduceAdd, Nat.reduceMul, Nat.reduceEqDiff, ↓reduceIte, true_and, and_true, and_self, List.drop_zero, List.take_length, Nat.le_refl, V.lit.injEq, Value.int.injEq, Value.bool.injEq]; try (first | omega | (simp; done) | (simp; omega))) (by rw [Nat.pow_zero]; (simp (disch := (first | omega | (simp only [lnA, List.length_map, List.length_range, true_and, and_true]; (try omega); done) | fail)) only [go_sem, Int.reduceEq, Int.reduceToNat, Nat.reduceAdd, Nat.reduceMul, Nat.reduceEqDiff, ↓reduceIte, true_and, and_true, and_self, List.drop_zero, List.take_length, Nat.le_refl, V.lit.injEq, Value.int.injEq, Value.bool.injEq]; try (first | omega | (simp; done) | (simp; omega)))) (by omega) ?_
  intro i hi
  by_cases h : i < n
  · have h1 := hp i hi
    refine runW ?_
    refine callV0 (lmul_fn (a := a ^ i) (b := a) (by omega) (by omega)) rfl rfl ?_
    rw [← Nat.pow_succ]
    refine runW ?_
    refine nextW (i + 1) [] (by omega) (by omega)
  · obtain rfl : i = n := by omega
    refine runW ?_
    exact endW [] hQ
end Go.Proofs.YtdmdmdoeahhkiaaGreatDoor

namespace Go.Proofs.YtdmdmdoeahhkiaaGreatDoor
open Go.Eng Go.Vx
set_option linter.unusedSimpArgs false
set_option linter.unusedVariables false
set_option maxRecDepth 100000
end Go.Proofs.YtdmdmdoeahhkiaaGreatDoor

namespace Go.Proofs.YtdmdmdoeahhkiaaGreatDoor
open Go.Eng Go.Vx
set_option linter.unusedSimpArgs false
set_option linter.unusedVariables false
set_option maxRecDepth 100000
end Go.Proofs.YtdmdmdoeahhkiaaGreatDoor

namespace Go.Proofs.YtdmdmdoeahhkiaaGreatDoor
open Go.Eng Go.Vx
set_option linter.unusedSimpArgs false
set_option linter.unusedVariables false
set_option maxRecDepth 100000
end Go.Proofs.YtdmdmdoeahhkiaaGreatDoor

namespace Go.Proofs.YtdmdmdoeahhkiaaGreatDoor
open Go.Eng Go.Vx
set_option linter.unusedSimpArgs false
set_option linter.unusedVariables false
set_option maxRecDepth 100000
end Go.Proofs.YtdmdmdoeahhkiaaGreatDoor

namespace Go.Proofs.YtdmdmdoeahhkiaaGreatDoor
open Go.Eng Go.Vx
set_option linter.unusedSimpArgs false
set_option linter.unusedVariables false
set_option maxRecDepth 100000
def ZD (p m : Nat) : V := .agg [.row 1 ((nl (dg p)).map (ie .i64)), .row 1 ((nl (dg m)).map (ie .i64))]
attribute [go_sem] ZD
def zS (z : Int) : List UInt8 := if z < 0 then 45 :: decS z.natAbs else decS z.natAbs
theorem decS_wg {n k : Nat} (h : (wg n).length ≤ k) : (decS n).length ≤ 20 * k + 1 := by
  rw [decS_len]
  by_cases h0 : n = 0
  · subst h0; have : nd10 0 ≤ 1 := (nd10_le (by decide)).2 (by decide)
    omega
  · have := nd10_wg h0
    omega
theorem wtext_fn {x : Int} (hl : (wg x.natAbs).length ≤ 100000) : Fn1 Tryz.prog 77 [WV x] [] (.lit (.string (bs (zS x)))) [] := by
  have h3 := ntext_fn (n := x.natAbs) hl
  have hsl := decS_wg hl
  unfold zS
  by_cases h : x < 0
  · rw [if_pos h]
    refine fn1N_of pl77 (by kernel_rfl) Tryz.call77 Tryz.func77 rfl (by kernel_rfl) rfl [.tmp 2] (by kernel_rfl) fun Q hQ => ?_
    repeat (first | (refine callV0 (h3) rfl rfl ?_) | (simp (maxSteps := 1000000) (disch := (first | omega | (simp only [lnA, List.length_map, List.length_range, true_and, and_true]; (try omega); done) | fail)) only [go_sem, decide_eq_true h, Int.reduceEq, Int.reduceToNat, Nat.reduceAdd, Nat.reduceMul, Nat.reduceEqDiff, ↓reduceIte]))
    exact endW [] hQ
  · rw [if_neg h]
    refine fn1N_of pl77 (by kernel_rfl) Tryz.call77 Tryz.func77 rfl (by kernel_rfl) rfl [.tmp 2] (by kernel_rfl) fun Q hQ => ?_
    repeat (first | (refine callV0 (h3) rfl rfl ?_) | (simp (maxSteps := 1000000) (disch := (first | omega | (simp only [lnA, List.length_map, List.length_range, true_and, and_true]; (try omega); done) | fail)) only [go_sem, decide_eq_false h, Int.reduceEq, Int.reduceToNat, Nat.reduceAdd, Nat.reduceMul, Nat.reduceEqDiff, ↓reduceIte]))
    exact endW [] hQ
end Go.Proofs.YtdmdmdoeahhkiaaGreatDoor

namespace Go.Proofs.YtdmdmdoeahhkiaaGreatDoor
open Go.Eng Go.Vx
set_option linter.unusedSimpArgs false
set_option linter.unusedVariables false
set_option maxRecDepth 100000
end Go.Proofs.YtdmdmdoeahhkiaaGreatDoor

namespace Go.Proofs.YtdmdmdoeahhkiaaGreatDoor
open Go.Eng Go.Vx
set_option linter.unusedSimpArgs false
set_option linter.unusedVariables false
set_option maxRecDepth 100000
def QD (p m d : Nat) : V := .agg [.row 1 ((nl (dg p)).map (ie .i64)), .row 1 ((nl (dg m)).map (ie .i64)), .row 1 ((nl (dg d)).map (ie .i64))]
attribute [go_sem] QD
def qS (x : Rat) : List UInt8 := zS x.num ++ (if x.den = 1 then [] else 47 :: decS x.den)
end Go.Proofs.YtdmdmdoeahhkiaaGreatDoor
