import Derived.Test.YthoknpbjoeopcaaGreatDoorYl
import Derived.Test.YthoknpbjoeopcaaGreatDoorYi
import Derived.Test.YthoknpbjoeopcaaGreatDoorZ1
/-! The document's whole numbers: two numbers, the first less the second. -/
namespace Go.Proofs.YthoknpbjoeopcaaGreatDoor
open Go.Eng Go.Vx
set_option linter.unusedSimpArgs false
set_option linter.unusedVariables false
set_option maxRecDepth 100000
def ZD (p m : Nat) : V := .agg [.row 1 ((nl (dg p)).map (ie .i64)), .row 1 ((nl (dg m)).map (ie .i64))]
attribute [go_sem] ZD
/-- The text of a whole number. -/
def zS (z : Int) : List UInt8 := if z < 0 then 45 :: decS z.natAbs else decS z.natAbs
theorem dgz : (nl (dg 0)).map (ie .i64) = [] := by rw [dg_zero]; rfl
theorem zmake_fn {b : Bool} {W : List Nat} (hW : ∀ x ∈ W, x < 18446744073709551616) (hl : W.length ≤ 50000) : Fn1 Tryz.prog 69 [.lit (.bool b), .row 1 ((nl W).map (ie .u64))] [] (if b then ZD 0 (wv W) else ZD (wv W) 0) [] := by
  have h := lof_fn hW hl
  have z := dgz
  cases b with
  | false =>
    simp only [Bool.false_eq_true, if_false, ZD, z]
    refine fn1N_of pl69 (by kernel_rfl) Tryz.call69 Tryz.func69 rfl (by kernel_rfl) rfl [.cell 4 55] (by kernel_rfl) fun Q hQ => ?_
    simp (maxSteps := 1000000) (disch := (first | omega | (simp only [lnA, List.length_map, List.length_range, true_and, and_true]; (try omega); done) | fail)) only [go_sem, Int.reduceEq, Int.reduceToNat, Nat.reduceAdd, Nat.reduceMul, Nat.reduceEqDiff, ↓reduceIte]
    refine callV0 (h) rfl rfl ?_
    simp (maxSteps := 1000000) (disch := (first | omega | (simp only [lnA, List.length_map, List.length_range, true_and, and_true]; (try omega); done) | fail)) only [go_sem, Int.reduceEq, Int.reduceToNat, Nat.reduceAdd, Nat.reduceMul, Nat.reduceEqDiff, ↓reduceIte]
    exact endW [] hQ
  | true =>
    simp only [if_true, ZD, z]
    refine fn1N_of pl69 (by kernel_rfl) Tryz.call69 Tryz.func69 rfl (by kernel_rfl) rfl [.cell 4 55] (by kernel_rfl) fun Q hQ => ?_
    simp (maxSteps := 1000000) (disch := (first | omega | (simp only [lnA, List.length_map, List.length_range, true_and, and_true]; (try omega); done) | fail)) only [go_sem, Int.reduceEq, Int.reduceToNat, Nat.reduceAdd, Nat.reduceMul, Nat.reduceEqDiff, ↓reduceIte]
    refine callV0 (h) rfl rfl ?_
    simp (maxSteps := 1000000) (disch := (first | omega | (simp only [lnA, List.length_map, List.length_range, true_and, and_true]; (try omega); done) | fail)) only [go_sem, Int.reduceEq, Int.reduceToNat, Nat.reduceAdd, Nat.reduceMul, Nat.reduceEqDiff, ↓reduceIte]
    exact endW [] hQ
theorem decS_wg {n k : Nat} (h : (wg n).length ≤ k) : (decS n).length ≤ 20 * k + 1 := by
  rw [decS_len]
  by_cases h0 : n = 0
  · subst h0; have : nd10 0 ≤ 1 := (nd10_le (by decide)).2 (by decide)
    omega
  · have := nd10_wg h0
    omega
theorem wtext_fn {x : Int} (hl : (wg x.natAbs).length ≤ 100000) : Fn1 Tryz.prog 19 [WV x] [] (.lit (.string (bs (zS x)))) [] := by
  have h3 := ntext_fn (n := x.natAbs) hl
  have hsl := decS_wg hl
  unfold zS
  by_cases h : x < 0
  · rw [if_pos h]
    refine fn1N_of pl19 (by kernel_rfl) Tryz.call19 Tryz.func19 rfl (by kernel_rfl) rfl [.tmp 2] (by kernel_rfl) fun Q hQ => ?_
    repeat (first | (refine callV0 (h3) rfl rfl ?_) | (simp (maxSteps := 1000000) (disch := (first | omega | (simp only [lnA, List.length_map, List.length_range, true_and, and_true]; (try omega); done) | fail)) only [go_sem, decide_eq_true h, Int.reduceEq, Int.reduceToNat, Nat.reduceAdd, Nat.reduceMul, Nat.reduceEqDiff, ↓reduceIte]))
    exact endW [] hQ
  · rw [if_neg h]
    refine fn1N_of pl19 (by kernel_rfl) Tryz.call19 Tryz.func19 rfl (by kernel_rfl) rfl [.tmp 2] (by kernel_rfl) fun Q hQ => ?_
    repeat (first | (refine callV0 (h3) rfl rfl ?_) | (simp (maxSteps := 1000000) (disch := (first | omega | (simp only [lnA, List.length_map, List.length_range, true_and, and_true]; (try omega); done) | fail)) only [go_sem, decide_eq_false h, Int.reduceEq, Int.reduceToNat, Nat.reduceAdd, Nat.reduceMul, Nat.reduceEqDiff, ↓reduceIte]))
    exact endW [] hQ
end Go.Proofs.YthoknpbjoeopcaaGreatDoor

/-! Package whole: what laws 6 and 7 share. -/
namespace Go.Proofs.YthoknpbjoeopcaaGreatDoor
open Go.Eng Go.Vx
set_option linter.unusedSimpArgs false
set_option linter.unusedVariables false
set_option maxRecDepth 100000
theorem zS_lit (n : Nat) (h : n < 10) : decS n = [UInt8.ofNat (48 + n)] := by
  have : ∀ n, n < 10 → decS n = [UInt8.ofNat (48 + n)] := fun n h => by
    rw [decS_small h]
  exact this n h
end Go.Proofs.YthoknpbjoeopcaaGreatDoor
