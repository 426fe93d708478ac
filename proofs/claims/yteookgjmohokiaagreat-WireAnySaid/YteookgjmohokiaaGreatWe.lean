import Derived.Test.YteookgjmohokiaaGreatFa
namespace Go.Proofs.YteookgjmohokiaaGreat
open Go.Eng Go.Vx
set_option linter.unusedSimpArgs false
set_option linter.unusedVariables false
set_option maxRecDepth 100000
theorem rnumB_fn {B : List Int} {p : Nat} {w : Int} (hw : ¬ (0 ≤ w ∧ w ≤ 64)) : Fn1 Tryz.prog 37 [.ref 0 0 0 0, .lit (.int .i64 w)] [some (rdC B p)] (.tup [.lit (.int .u64 0), .lit (.int .i64 2)]) [some (rdC B p)] := by
  refine fn1N_of pl37 (by kernel_rfl) Tryz.call37 Tryz.func37 rfl (by kernel_rfl) rfl [.tmp 4, .tmp 5] (by kernel_rfl) fun Q hQ => ?_
  simp (maxSteps := 1000000) (disch := (first | omega | (simp only [lnA, List.length_map, List.length_range, true_and, and_true]; (try omega); done) | fail)) only [go_sem, Int.reduceEq, Int.reduceToNat, Nat.reduceAdd, Nat.reduceMul, Nat.reduceEqDiff, ↓reduceIte]
  refine callV0 (bgood_fn) rfl rfl ?_
  rw [decide_eq_false hw]
  simp (maxSteps := 1000000) (disch := (first | omega | (simp only [lnA, List.length_map, List.length_range, true_and, and_true]; (try omega); done) | fail)) only [go_sem, Int.reduceEq, Int.reduceToNat, Nat.reduceAdd, Nat.reduceMul, Nat.reduceEqDiff, ↓reduceIte]
  exact endW [some 0] hQ
theorem rnumX_fn {B : List Int} {p : Nat} {w : Int} (hI : IsB B) (hB : B.length ≤ 1099511627776) (hp : p ≤ 8 * B.length) : Fn1 Tryz.prog 37 [.ref 0 0 0 0, .lit (.int .i64 w)] [some (rdC B p)]
    (.tup [.lit (.int .u64 ((rX (bitsOf B) p w).1 : Int)), .lit (.int .i64 (rX (bitsOf B) p w).2.2)]) [some (rdC B (rX (bitsOf B) p w).2.1)] := by
  unfold rX
  have hbl := bitsOf_len B
  by_cases hw : 0 ≤ w ∧ w ≤ 64
  · obtain ⟨m, rfl⟩ := Int.eq_ofNat_of_zero_le hw.1
    simp only [if_pos hw, Int.toNat_natCast]
    by_cases h2 : p + m ≤ (bitsOf B).length
    · simp only [if_pos h2]
      exact brnum_fn hI hB (by omega) (by omega)
    · simp only [if_neg h2]
      exact rnumE_fn hI hB (by omega) (by omega) hp
  · simp only [if_neg hw]
    exact rnumB_fn hw
theorem close_fn {B : List Int} {p : Nat} (hI : IsB B) (hB : B.length ≤ 1099511627776) (hp : p ≤ 8 * B.length) : Fn1 Tryz.prog 39 [.ref 0 0 0 0] [some (rdC B p)] (.lit (.int .i64 (closeX (bitsOf B) p))) [some (rdC B p)] := by
  refine fn1N_of pl39 (by kernel_rfl) Tryz.call39 Tryz.func39 rfl (by kernel_rfl) rfl [.tmp 2] (by kernel_rfl) fun Q hQ => ?_
  have hbl := bitsOf_len B
  unfold closeX at hQ
  simp (maxSteps := 1000000) (disch := (first | omega | (simp only [lnA, List.length_map, List.length_range, true_and, and_true]; (try omega); done) | fail)) only [go_sem, Int.reduceEq, Int.reduceToNat, Nat.reduceAdd, Nat.reduceMul, Nat.reduceEqDiff, ↓reduceIte]
  refine callW [some 0] [] (left_fn (B := B) (p := p) hB hp) ?_
  by_cases h8 : 8 ≤ (bitsOf B).length - p
  · rw [if_pos h8] at hQ
    simp (maxSteps := 1000000) (disch := (first | omega | (simp only [lnA, List.length_map, List.length_range, true_and, and_true]; (try omega); done) | fail)) only [go_sem, Int.reduceEq, Int.reduceToNat, Nat.reduceAdd, Nat.reduceMul, Nat.reduceEqDiff, ↓reduceIte]
    exact endW [some 0] hQ
  · rw [if_neg h8] at hQ
    simp (maxSteps := 1000000) (disch := (first | omega | (simp only [lnA, List.length_map, List.length_range, true_and, and_true]; (try omega); done) | fail)) only [go_sem, Int.reduceEq, Int.reduceToNat, Nat.reduceAdd, Nat.reduceMul, Nat.reduceEqDiff, ↓reduceIte]
    refine loopW (X := Nat) (st := fun i => ([(3, .ref 1 0 0 0)], [some (rdC B p), some (rdC B (p + i))]))
      (inv := fun i => p + i ≤ 8 * B.length ∧ (((bitsOf B).drop p).take i).any id = false) (m := fun i => 8 * B.length - p - i) 0 [some 0, some 1] ⟨by omega, by simp⟩ ?_
    rintro i ⟨hi, ha⟩
    simp (maxSteps := 1000000) (disch := (first | omega | (simp only [lnA, List.length_map, List.length_range, true_and, and_true]; (try omega); done) | fail)) only [go_sem, Int.reduceEq, Int.reduceToNat, Nat.reduceAdd, Nat.reduceMul, Nat.reduceEqDiff, ↓reduceIte]
    refine callW [some 1] [] (left_fn (B := B) (p := p + i) hB (by omega)) ?_
    by_cases hil : p + i < 8 * B.length
    · simp (maxSteps := 1000000) (disch := (first | omega | (simp only [lnA, List.length_map, List.length_range, true_and, and_true]; (try omega); done) | fail)) only [go_sem, Int.reduceEq, Int.reduceToNat, Nat.reduceAdd, Nat.reduceMul, Nat.reduceEqDiff, ↓reduceIte]
      refine callW [some 1] [] (next_fn (B := B) (p := p + i) hI hB hil) ?_
      cases hb : (bitsOf B).getD (p + i) false with
      | true =>
        rw [if_pos (any_of_get (by omega) hb)] at hQ
        simp (maxSteps := 1000000) (disch := (first | omega | (simp only [lnA, List.length_map, List.length_range, true_and, and_true]; (try omega); done) | fail)) only [go_sem, hb, Bool.toNat_true, Int.reduceEq, Int.reduceToNat, Nat.reduceAdd, Nat.reduceMul, Nat.reduceEqDiff, ↓reduceIte]
        exact endW [some 0] hQ
      | false =>
        simp (maxSteps := 1000000) (disch := (first | omega | (simp only [lnA, List.length_map, List.length_range, true_and, and_true]; (try omega); done) | fail)) only [go_sem, hb, Bool.toNat_false, Int.reduceEq, Int.reduceToNat, Nat.reduceAdd, Nat.reduceMul, Nat.reduceEqDiff, ↓reduceIte]
        refine nextW (i + 1) [some 0, some 1] ⟨by omega, any_snoc (by omega) hb ha⟩ (by omega)
    · simp (maxSteps := 1000000) (disch := (first | omega | (simp only [lnA, List.length_map, List.length_range, true_and, and_true]; (try omega); done) | fail)) only [go_sem, Int.reduceEq, Int.reduceToNat, Nat.reduceAdd, Nat.reduceMul, Nat.reduceEqDiff, ↓reduceIte]
      rw [List.take_of_length_le (by simp; omega)] at ha
      rw [if_neg (by rw [ha]; simp)] at hQ
      exact endW [some 0] hQ
theorem rbitX_fn {B : List Int} {p : Nat} (hI : IsB B) (hB : B.length ≤ 1099511627776) (hp : p ≤ 8 * B.length) : Fn1 Tryz.prog 83 [.ref 0 0 0 0] [some (rdC B p)]
    (.tup [.lit (.bool (decide ((rX (bitsOf B) p 1).1 = 1))), .lit (.int .i64 (rX (bitsOf B) p 1).2.2)]) [some (rdC B (rX (bitsOf B) p 1).2.1)] := by
  refine fn1N_of pl83 (by kernel_rfl) Tryz.call83 Tryz.func83 rfl (by kernel_rfl) rfl [.tmp 2, .tmp 3] (by kernel_rfl) fun Q hQ => ?_
  simp (maxSteps := 1000000) (disch := (first | omega | (simp only [lnA, List.length_map, List.length_range, true_and, and_true]; (try omega); done) | fail)) only [go_sem, Int.reduceEq, Int.reduceToNat, Nat.reduceAdd, Nat.reduceMul, Nat.reduceEqDiff, ↓reduceIte]
  refine callW [some 0] [] (rnumX_fn (B := B) (p := p) (w := 1) hI hB hp) ?_
  simp (maxSteps := 1000000) (disch := (first | omega | (simp only [lnA, List.length_map, List.length_range, true_and, and_true]; (try omega); done) | fail)) only [go_sem, Int.reduceEq, Int.reduceToNat, Nat.reduceAdd, Nat.reduceMul, Nat.reduceEqDiff, ↓reduceIte]
  rw [show decide (((rX (bitsOf B) p 1).1 : Int) = 1) = decide ((rX (bitsOf B) p 1).1 = 1) by rw [decide_eq_decide]; omega]
  exact endW [some 0] hQ
end Go.Proofs.YteookgjmohokiaaGreat
