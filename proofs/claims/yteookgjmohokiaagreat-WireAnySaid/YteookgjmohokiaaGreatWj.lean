import Derived.Test.YteookgjmohokiaaGreatD2
import Derived.Test.YteookgjmohokiaaGreatE7
namespace Go.Proofs.YteookgjmohokiaaGreat
open Go.Eng Go.Vx
set_option linter.unusedSimpArgs false
set_option linter.unusedVariables false
set_option maxRecDepth 100000
theorem gamma_fn {B : List Int} {p : Nat} (hI : IsB B) (hB : B.length ≤ 1099511627776) (hp : p ≤ 8 * B.length) : Fn1 Tryz.prog 84 [.ref 0 0 0 0] [some (rdC B p)]
    (.tup [.lit (.int .u64 ((gX (bitsOf B) p).1 : Int)), .lit (.int .i64 (gX (bitsOf B) p).2.2)]) [some (rdC B (gX (bitsOf B) p).2.1)] := by
  refine fn1N_of pl84 (by kernel_rfl) Tryz.call84 Tryz.func84 rfl (by kernel_rfl) rfl [.tmp 2, .tmp 3] (by kernel_rfl) fun Q hQ => ?_
  simp (maxSteps := 1000000) (disch := (first | omega | (simp only [lnA, List.length_map, List.length_range, true_and, and_true]; (try omega); done) | fail)) only [go_sem, Int.reduceEq, Int.reduceToNat, Nat.reduceAdd, Nat.reduceMul, Nat.reduceEqDiff, ↓reduceIte]
  have hbl := bitsOf_len B
  refine loopW (X := Nat) (st := fun k => ([(0, .ref 0 0 0 0), (9, .lit (.int .i64 (k : Int)))], [some (rdC B (p + k))]))
    (inv := fun k => k ≤ 64 ∧ k ≤ zr (bitsOf B) p ∧ p + k ≤ 8 * B.length) (m := fun k => 64 - k) 0 [some 0] ⟨by omega, by omega, by omega⟩ ?_
  rintro k ⟨hk, hz, hpk⟩
  by_cases hk64 : k < 64
  · simp (maxSteps := 1000000) (disch := (first | omega | (simp only [lnA, List.length_map, List.length_range, true_and, and_true]; (try omega); done) | fail)) only [go_sem, Int.reduceEq, Int.reduceToNat, Nat.reduceAdd, Nat.reduceMul, Nat.reduceEqDiff, ↓reduceIte]
    refine callW [some 0] [] (rbitX_fn (B := B) (p := p + k) hI hB hpk) ?_
    by_cases hin : p + k < (bitsOf B).length
    · rw [rX_one hin]
      cases hb : (bitsOf B).getD (p + k) false with
      | true =>
        have hzk := zr_true hin hz hb
        simp (maxSteps := 1000000) (disch := (first | omega | (simp only [lnA, List.length_map, List.length_range, true_and, and_true]; (try omega); done) | fail)) only [go_sem, Bool.toNat_true, decide_true, Int.reduceEq, Int.reduceToNat, Nat.reduceAdd, Nat.reduceMul, Nat.reduceEqDiff, ↓reduceIte]
        refine callW [some 0] [] (rnumX_fn (B := B) (p := p + k + 1) (w := k) hI hB (by omega)) ?_
        by_cases he : p + k + 1 + k ≤ (bitsOf B).length
        · rw [rX_ok (by omega) he]
          rw [(gX_ok hzk hk64 (by omega)).1] at hQ
          have hnl := numOf_lt (((bitsOf B).drop (p + k + 1)).take k)
          have hln : (((bitsOf B).drop (p + k + 1)).take k).length = k := by simp; omega
          rw [hln] at hnl
          simp (maxSteps := 1000000) (disch := (first | omega | (simp only [lnA, List.length_map, List.length_range, true_and, and_true]; (try omega); done) | fail)) only [go_sem, sh1_u64 hk64, or_top hk64 hnl, Int.reduceEq, Int.reduceToNat, Nat.reduceAdd, Nat.reduceMul, Nat.reduceEqDiff, ↓reduceIte]
          exact endW [some 0] hQ
        · rw [rX_end (by omega) he]
          rw [(gX_end hzk hk64 (by omega)).1, if_pos hin] at hQ
          simp (maxSteps := 1000000) (disch := (first | omega | (simp only [lnA, List.length_map, List.length_range, true_and, and_true]; (try omega); done) | fail)) only [go_sem, Int.reduceEq, Int.reduceToNat, Nat.reduceAdd, Nat.reduceMul, Nat.reduceEqDiff, ↓reduceIte]
          exact endW [some 0] hQ
      | false =>
        have hzk := zr_false hin hz hb
        simp (maxSteps := 1000000) (disch := (first | omega | (simp only [lnA, List.length_map, List.length_range, true_and, and_true]; (try omega); done) | fail)) only [go_sem, Bool.toNat_false, Int.reduceEq, Int.reduceToNat, Nat.reduceAdd, Nat.reduceMul, Nat.reduceEqDiff, ↓reduceIte]
        refine nextW (k + 1) [some 0] ⟨by omega, by omega, by omega⟩ (by omega)
    · rw [rX_one_end hin]
      have hzk := zr_end hin hz (by omega)
      rw [(gX_end hzk hk64 (by omega)).1, if_neg hin] at hQ
      simp (maxSteps := 1000000) (disch := (first | omega | (simp only [lnA, List.length_map, List.length_range, true_and, and_true]; (try omega); done) | fail)) only [go_sem, Int.reduceEq, Int.reduceToNat, Nat.reduceAdd, Nat.reduceMul, Nat.reduceEqDiff, ↓reduceIte]
      exact endW [some 0] hQ
  · obtain rfl : k = 64 := by omega
    rw [(gX_form (by omega)).1] at hQ
    simp (maxSteps := 1000000) (disch := (first | omega | (simp only [lnA, List.length_map, List.length_range, true_and, and_true]; (try omega); done) | fail)) only [go_sem, Int.reduceEq, Int.reduceToNat, Nat.reduceAdd, Nat.reduceMul, Nat.reduceEqDiff, ↓reduceIte]
    exact endW [some 0] hQ
theorem var_fn {B : List Int} {p : Nat} (hI : IsB B) (hB : B.length ≤ 1099511627776) (hp : p ≤ 8 * B.length) : Fn1 Tryz.prog 87 [.ref 0 0 0 0] [some (rdC B p)]
    (.tup [.lit (.int .u64 ((vX (bitsOf B) p).1 : Int)), .lit (.int .i64 (vX (bitsOf B) p).2.2)]) [some (rdC B (vX (bitsOf B) p).2.1)] := by
  refine fn1N_of pl87 (by kernel_rfl) Tryz.call87 Tryz.func87 rfl (by kernel_rfl) rfl [.tmp 2, .tmp 3] (by kernel_rfl) fun Q hQ => ?_
  simp (maxSteps := 1000000) (disch := (first | omega | (simp only [lnA, List.length_map, List.length_range, true_and, and_true]; (try omega); done) | fail)) only [go_sem, Int.reduceEq, Int.reduceToNat, Nat.reduceAdd, Nat.reduceMul, Nat.reduceEqDiff, ↓reduceIte]
  have hbl := bitsOf_len B
  refine loopW (X := Nat × Nat × Nat) (st := fun x => ([(0, .ref 0 0 0 0), (4, .lit (.int .u64 (x.2.2 : Int))), (9, .lit (.int .i64 (x.1 : Int)))], [some (rdC B x.2.1)]))
    (inv := fun x => x.1 ≤ 10 ∧ x.2.1 ≤ 8 * B.length ∧ x.2.2 < 2 ^ (7 * x.1) ∧ vX (bitsOf B) p = vXj (bitsOf B) (10 - x.1) x.1 x.2.1 x.2.2) (m := fun x => 10 - x.1) (0, p, 0) [some 0] ⟨by simp, hp, by simp, rfl⟩ ?_
  rintro ⟨i, q, a⟩ ⟨hi, hq, ha, hv⟩
  simp only at hi hq ha hv
  rw [hv] at hQ
  by_cases h10 : i < 10
  · obtain ⟨j, hj⟩ : ∃ j, 10 - i = j + 1 := ⟨9 - i, by omega⟩
    rw [hj] at hQ
    simp (maxSteps := 1000000) (disch := (first | omega | (simp only [lnA, List.length_map, List.length_range, true_and, and_true]; (try omega); done) | fail)) only [go_sem, Int.reduceEq, Int.reduceToNat, Nat.reduceAdd, Nat.reduceMul, Nat.reduceEqDiff, ↓reduceIte]
    refine callW [some 0] [] (rnumX_fn (B := B) (p := q) (w := 8) hI hB hq) ?_
    by_cases hr : q + 8 ≤ (bitsOf B).length
    · rw [rX8_ok hr]
      obtain ⟨x, hx⟩ : ∃ x, numOf (((bitsOf B).drop q).take 8) = x := ⟨_, rfl⟩
      have hx8 := numOf_lt (((bitsOf B).drop q).take 8)
      have hln : (((bitsOf B).drop q).take 8).length = 8 := by simp; omega
      rw [hln, hx] at hx8
      rw [vXj_ok hr hx] at hQ
      rw [hx]
      have hc : (x : Int) % 128 = ((x % 128 : Nat) : Int) := by omega
      have e7 : (7 * (i : Int)).toNat = 7 * i := by omega
      have hxm : x % 128 < 128 := Nat.mod_lt _ (by decide)
      by_cases hbad : (i = 9 ∧ 1 < x % 128) ∨ (0 < i ∧ x = 0)
      · rw [if_pos hbad] at hQ
        by_cases h9 : i = 9
        · by_cases h8 : 1 < x % 128
          · simp (maxSteps := 1000000) (disch := (first | omega | (simp only [lnA, List.length_map, List.length_range, true_and, and_true]; (try omega); done) | fail)) only [go_sem, hc, Int.reduceEq, Int.reduceToNat, Nat.reduceAdd, Nat.reduceMul, Nat.reduceEqDiff, ↓reduceIte]
            exact endW [some 0] hQ
          · simp (maxSteps := 1000000) (disch := (first | omega | (simp only [lnA, List.length_map, List.length_range, true_and, and_true]; (try omega); done) | fail)) only [go_sem, hc, Int.reduceEq, Int.reduceToNat, Nat.reduceAdd, Nat.reduceMul, Nat.reduceEqDiff, ↓reduceIte]
            exact endW [some 0] hQ
        · simp (maxSteps := 1000000) (disch := (first | omega | (simp only [lnA, List.length_map, List.length_range, true_and, and_true]; (try omega); done) | fail)) only [go_sem, hc, Int.reduceEq, Int.reduceToNat, Nat.reduceAdd, Nat.reduceMul, Nat.reduceEqDiff, ↓reduceIte]
          exact endW [some 0] hQ
      · rw [if_neg hbad] at hQ
        have h91 : i = 9 → x % 128 ≤ 1 := fun h => by
          have : ¬ 1 < x % 128 := fun h' => hbad (.inl ⟨h, h'⟩)
          omega
        have h0 : ¬ (0 < i ∧ x = 0) := fun h => hbad (.inr h)
        have hw := wrap_shl (x := x % 128) (i := i) (by omega) h91 hxm
        have ho := or_shl (x := x % 128) ha (by omega) h91 hxm
        have hs := shl7 (x := x % 128) (i := i) (by omega) h91 hxm
        have hp7 := pow7_succ i
        have hmul : x % 128 * 2 ^ (7 * i) ≤ 127 * 2 ^ (7 * i) := Nat.mul_le_mul_right _ (by omega)
        by_cases hx128 : x < 128
        case' pos => rw [if_pos hx128] at hQ
        case' neg => rw [if_neg hx128] at hQ
        all_goals
          by_cases h9 : i = 9
          case' pos => simp (maxSteps := 1000000) (disch := (first | omega | (simp only [lnA, List.length_map, List.length_range, true_and, and_true]; (try omega); done) | fail)) only [go_sem, hc, Int.reduceEq, Int.reduceToNat, Nat.reduceAdd, Nat.reduceMul, Nat.reduceEqDiff, ↓reduceIte]
          case' neg => simp (maxSteps := 1000000) (disch := (first | omega | (simp only [lnA, List.length_map, List.length_range, true_and, and_true]; (try omega); done) | fail)) only [go_sem, hc, Int.reduceEq, Int.reduceToNat, Nat.reduceAdd, Nat.reduceMul, Nat.reduceEqDiff, ↓reduceIte]
        all_goals
          by_cases hi0 : i = 0
          case' pos => simp (maxSteps := 1000000) (disch := (first | omega | (simp only [lnA, List.length_map, List.length_range, true_and, and_true]; (try omega); done) | fail)) only [go_sem, hc, e7, hw, ho, Int.reduceEq, Int.reduceToNat, Nat.reduceAdd, Nat.reduceMul, Nat.reduceEqDiff, ↓reduceIte]
          case' neg => simp (maxSteps := 1000000) (disch := (first | omega | (simp only [lnA, List.length_map, List.length_range, true_and, and_true]; (try omega); done) | fail)) only [go_sem, hc, e7, hw, ho, Int.reduceEq, Int.reduceToNat, Nat.reduceAdd, Nat.reduceMul, Nat.reduceEqDiff, ↓reduceIte]
        all_goals
          first
          | omega
          | (exact endW [some 0] hQ)
          | (refine nextW (i + 1, q + 8, a + x % 128 * 2 ^ (7 * i)) [some 0] ⟨by simp only; omega, by simp only; omega, by simp only; omega, by rw [hv, hj, vXj_ok hr hx, if_neg hbad, if_neg hx128]; simp only; rw [show 10 - (i + 1) = j by omega]⟩ (by simp only; omega))
    · rw [rX8_end hr]
      rw [vXj_end hr] at hQ
      simp (maxSteps := 1000000) (disch := (first | omega | (simp only [lnA, List.length_map, List.length_range, true_and, and_true]; (try omega); done) | fail)) only [go_sem, Int.reduceEq, Int.reduceToNat, Nat.reduceAdd, Nat.reduceMul, Nat.reduceEqDiff, ↓reduceIte]
      exact endW [some 0] hQ
  · obtain rfl : i = 10 := by omega
    rw [show vXj (bitsOf B) (10 - 10) 10 q a = (0, q, 4) from rfl] at hQ
    simp (maxSteps := 1000000) (disch := (first | omega | (simp only [lnA, List.length_map, List.length_range, true_and, and_true]; (try omega); done) | fail)) only [go_sem, Int.reduceEq, Int.reduceToNat, Nat.reduceAdd, Nat.reduceMul, Nat.reduceEqDiff, ↓reduceIte]
    exact endW [some 0] hQ
end Go.Proofs.YteookgjmohokiaaGreat
