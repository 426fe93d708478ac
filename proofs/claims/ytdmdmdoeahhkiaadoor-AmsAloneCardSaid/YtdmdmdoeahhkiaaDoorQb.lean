import Derived.Test.YtdmdmdoeahhkiaaDoorQa
namespace Go.Proofs.YtdmdmdoeahhkiaaDoor
open Go.Eng Go.Vx
set_option linter.unusedSimpArgs false
set_option linter.unusedVariables false
set_option maxRecDepth 100000
theorem rwhole_fn {x : Rat} (hx : RS 1000000 x) : Fn1 Tryd.prog 45 [RV x] [] (.lit (.bool (decide (x.den = 1)))) [] := by
  have hd := x.den_nz
  have hl : (wg (x.den - 1)).length ≤ 1000000 := Nat.le_trans (wg_mono (by omega)) hx.2
  have z := zero_fn (n := x.den - 1) (by omega)
  rw [show decide (x.den - 1 = 0) = decide (x.den = 1) by congr 1; exact propext ⟨fun h => by omega, fun h => by omega⟩] at z
  refine fn1N_of pl45 (by kernel_rfl) Tryd.call45 Tryd.func45 rfl (by kernel_rfl) rfl [.tmp 2] (by kernel_rfl) fun Q hQ => ?_
  repeat (first | (refine callV0 (z) rfl rfl ?_) | (refine runW ?_))
  exact endW [] hQ
theorem rtxt_fn {x : Rat} (hx : RS 5000 x) : Fn1 Tryd.prog 25 [RV x] [] (.lit (.string (bs (qS x)))) [] := by
  obtain ⟨hx1, hx2⟩ := hx
  have w := rwhole_fn (x := x) ⟨Nat.le_trans hx1 (by decide), Nat.le_trans hx2 (by decide)⟩
  have t := wtext_fn (x := x.num) (by omega)
  have dn := rden_fn (x := x) (by omega)
  have td := ntext_fn (n := x.den) (by omega)
  have s1 := decS_wg hx1
  have s2 := decS_wg hx2
  have s3 : (zS x.num).length ≤ (decS x.num.natAbs).length + 1 := by unfold zS; split <;> simp
  unfold qS
  by_cases h : x.den = 1
  · rw [if_pos h, List.append_nil]
    rw [decide_eq_true h] at w
    generalize zS x.num = sn at *
    refine fn1N_of pl25 (by kernel_rfl) Tryd.call25 Tryd.func25 rfl (by kernel_rfl) rfl [.tmp 2] (by kernel_rfl) fun Q hQ => ?_
    repeat (first | (refine callV0 (w) rfl rfl ?_) | (refine callV0 (t) rfl rfl ?_) | (refine runW ?_))
    exact endW [] hQ
  · rw [if_neg h]
    rw [decide_eq_false h] at w
    generalize zS x.num = sn at *
    refine fn1N_of pl25 (by kernel_rfl) Tryd.call25 Tryd.func25 rfl (by kernel_rfl) rfl [.tmp 2] (by kernel_rfl) fun Q hQ => ?_
    repeat (first | (refine callV0 (w) rfl rfl ?_) | (refine callV0 (t) rfl rfl ?_) | (refine callV0 (dn) rfl rfl ?_) | (refine callV0 (td) rfl rfl ?_) | (simp (maxSteps := 1000000) (disch := (first | omega | (simp only [lnA, List.length_map, List.length_range, true_and, and_true]; (try omega); done) | fail)) only [go_sem, List.append_assoc, List.cons_append, List.nil_append, Int.reduceEq, Int.reduceToNat, Nat.reduceAdd, Nat.reduceMul, Nat.reduceEqDiff, ↓reduceIte]))
    exact endW [] hQ
end Go.Proofs.YtdmdmdoeahhkiaaDoor
