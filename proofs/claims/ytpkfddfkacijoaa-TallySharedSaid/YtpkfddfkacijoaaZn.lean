import Derived.Test.YtpkfddfkacijoaaTe
namespace Go.Proofs.Ytpkfddfkacijoaa
open Go.Eng Go.Vx
set_option linter.unusedSimpArgs false
set_option linter.unusedVariables false
set_option maxRecDepth 100000
theorem ratioD_fn {L : List Bool} {P D p : Nat} (hL : L.length ≤ 1048576) (hD : ¬ (D = 0 ∨ D < P)) (hPD : P ≠ D) (hP : (wg P).length ≤ 500000) (hD1 : (wg D).length ≤ 500000) : Fn1 Try.prog 100 [.ref 0 0 0 0, NV P, NV D] [some (tpC L p true)]
    (.tup [.lit (.bool false), .lit (.int .i64 (if P = 0 then 0 else 8))]) [some (tpC L p true)] := by
  refine fn1N_of pl100 (by kernel_rfl) Try.call100 Try.func100 rfl (by kernel_rfl) rfl [.tmp 6, .tmp 7] (by kernel_rfl) fun Q hQ => ?_
  refine runW ?_
  refine callV0 (good_fn (P := P) (D := D) (by omega) (by omega)) rfl rfl ?_
  rw [decide_eq_true hD]
  refine runW ?_
  refine callV0 (zero_fn (n := P) (by omega)) rfl rfl ?_
  by_cases h2 : P = 0
  · rw [decide_eq_true h2]
    rw [if_pos h2] at hQ
    refine runW ?_
    exact endW [some 0] hQ
  · rw [decide_eq_false h2]
    rw [if_neg h2] at hQ
    refine runW ?_
    refine loopW (X := Unit) (st := fun z => ([(0, .ref 0 0 0 0), (4, .ref 1 0 0 0), (5, .ref 2 0 0 0), (8, .ref 3 0 0 0)], [some (tpC L p true), some (.cells [.row 1 ((nl (wg P)).map (ie .u64))]), some (.cells [.row 1 ((nl (wg D)).map (ie .u64))]), some (.cells [.row 1 ((nl (wg P)).map (ie .u64))])]))
      (inv := fun _ => True) (m := fun _ => 0) () [some 0, some 1, some 2, some 3] trivial ?_
    intro _ _
    have hc := cmpI_neg.2 (show P < D by omega)
    refine runW ?_
    refine callV0 (ncmp_fn (a := P) (b := D) (by omega) (by omega)) rfl rfl ?_
    simp (maxSteps := 1000000) (disch := (first | omega | (simp only [lnA, List.length_map, List.length_range, true_and, and_true]; (try omega); done) | fail)) only [go_sem, decide_eq_true hc, Int.reduceEq, Int.reduceToNat, Nat.reduceAdd, Nat.reduceMul, Nat.reduceEqDiff, ↓reduceIte]
    refine callW [some 0] [] (flipE_fn (L := L) (p := p) (d := true) hL (.inl rfl)) ?_
    refine runW ?_
    exact endW [some 0] hQ
end Go.Proofs.Ytpkfddfkacijoaa
