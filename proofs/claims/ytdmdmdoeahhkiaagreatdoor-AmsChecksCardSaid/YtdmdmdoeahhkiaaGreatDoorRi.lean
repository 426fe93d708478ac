import Derived.Test.YtdmdmdoeahhkiaaGreatDoorLb
import Derived.Test.YtdmdmdoeahhkiaaGreatDoorRh
import Derived.Test.YtdmdmdoeahhkiaaGreatDoorFb
import Derived.Test.YtdmdmdoeahhkiaaGreatDoorLa
namespace Go.Proofs.YtdmdmdoeahhkiaaGreatDoor
open Go.Eng Go.Vx
set_option linter.unusedSimpArgs false
set_option linter.unusedVariables false
set_option maxRecDepth 100000
theorem xlog_fn {N : Nat} {n : Int} (h : max 0 (min n 1048576) = (N : Int)) : Fn1 Tryz.prog 73 [.lit (.int .i64 n)] [] (.lit (.int .i64 ((N * lgN (max 1 N) : Nat) : Int))) [] := by
  refine fn1N_of pl73 (by kernel_rfl) Tryz.call73 Tryz.func73 rfl (by kernel_rfl) rfl [.tmp 2] (by kernel_rfl) fun Q hQ => ?_
  have hN : N ≤ 1048576 := by omega
  have hl := lgN_le (n := max 1 N) (by omega) (by omega)
  have hm : N * lgN (max 1 N) ≤ 1048576 * (41 * 268435456) := Nat.mul_le_mul hN (by omega)
  have hc : (N : Int) * ((lgN (max 1 N) : Nat) : Int) = ((N * lgN (max 1 N) : Nat) : Int) := by simp
  simp (maxSteps := 1000000) (disch := (first | omega | (simp only [lnA, List.length_map, List.length_range, true_and, and_true]; (try omega); done) | fail)) only [go_sem, h, Int.reduceEq, Int.reduceToNat, Nat.reduceAdd, Nat.reduceMul, Nat.reduceEqDiff, ↓reduceIte]
  refine callV0 (log2_fn (N := max 1 N) (n := (N : Int)) (by omega)) rfl rfl ?_
  simp (maxSteps := 1000000) (disch := (first | omega | (simp only [lnA, List.length_map, List.length_range, true_and, and_true]; (try omega); done) | fail)) only [go_sem, hc, Int.reduceEq, Int.reduceToNat, Nat.reduceAdd, Nat.reduceMul, Nat.reduceEqDiff, ↓reduceIte]
  exact endW [] hQ
theorem within_fn {n lo hi : Int} (h : lo ≤ hi) : Fn1 Tryz.prog 79 [.lit (.int .i64 n), .lit (.int .i64 lo), .lit (.int .i64 hi)] [] (.lit (.int .i64 (max lo (min n hi)))) [] := by
  refine fn1N_of pl79 (by kernel_rfl) Tryz.call79 Tryz.func79 rfl (by kernel_rfl) rfl [.tmp 6] (by kernel_rfl) fun Q hQ => ?_
  by_cases h1 : n < lo
  · rw [show max lo (min n hi) = lo by omega] at hQ
    simp (maxSteps := 1000000) (disch := (first | omega | (simp only [lnA, List.length_map, List.length_range, true_and, and_true]; (try omega); done) | fail)) only [go_sem, Int.reduceEq, Int.reduceToNat, Nat.reduceAdd, Nat.reduceMul, Nat.reduceEqDiff, ↓reduceIte]
    exact endW [] hQ
  · by_cases h2 : hi < n
    · rw [show max lo (min n hi) = hi by omega] at hQ
      simp (maxSteps := 1000000) (disch := (first | omega | (simp only [lnA, List.length_map, List.length_range, true_and, and_true]; (try omega); done) | fail)) only [go_sem, Int.reduceEq, Int.reduceToNat, Nat.reduceAdd, Nat.reduceMul, Nat.reduceEqDiff, ↓reduceIte]
      exact endW [] hQ
    · rw [show max lo (min n hi) = n by omega] at hQ
      simp (maxSteps := 1000000) (disch := (first | omega | (simp only [lnA, List.length_map, List.length_range, true_and, and_true]; (try omega); done) | fail)) only [go_sem, Int.reduceEq, Int.reduceToNat, Nat.reduceAdd, Nat.reduceMul, Nat.reduceEqDiff, ↓reduceIte]
      exact endW [] hQ
theorem sh1_i64 {k : Nat} (h : k < 63) : IntKind.i64.wrap (1 * 2 ^ k) = ((2 ^ k : Nat) : Int) := by
  have h1 : 2 ^ k ≤ 2 ^ 62 := Nat.pow_le_pow_right (by decide) (by omega)
  have h2 : (1 * 2 ^ k : Int) = ((2 ^ k : Nat) : Int) := by simp
  rw [h2]
  generalize 2 ^ k = x at *
  have : (x : Int) < 9223372036854775808 := by omega
  simp (maxSteps := 1000000) (disch := (first | omega | (simp only [lnA, List.length_map, List.length_range, true_and, and_true]; (try omega); done) | fail)) only [go_sem, Int.reduceEq, Int.reduceToNat, Nat.reduceAdd, Nat.reduceMul, Nat.reduceEqDiff, ↓reduceIte]
theorem dg5 {n : Nat} (h : n < 18446744073709551616) : (dg n).length ≤ 5 := dg_len (Nat.lt_of_lt_of_le h (by decide))
theorem rlog2_fn {N : Nat} {n : Int} (h : max 1 (min n 1099511627776) = (N : Int)) : Fn1 Tryz.prog 80 [.lit (.int .i64 n)] [] (.lit (.int .i64 ((lgN N : Nat) : Int))) [] := by
  refine fn1N_of pl80 (by kernel_rfl) Tryz.call80 Tryz.func80 rfl (by kernel_rfl) rfl [.tmp 2] (by kernel_rfl) fun Q hQ => ?_
  have hN : 0 < N ∧ N ≤ 1099511627776 := by omega
  obtain ⟨b1, b2, b3, b4⟩ := lg_start hN.1 hN.2
  have hbt := bl_le (n := N) (by omega)
  unfold lgN at hQ
  simp (maxSteps := 1000000) (disch := (first | omega | (simp only [lnA, List.length_map, List.length_range, true_and, and_true]; (try omega); done) | fail)) only [go_sem, Int.reduceEq, Int.reduceToNat, Nat.reduceAdd, Nat.reduceMul, Nat.reduceEqDiff, ↓reduceIte]
  refine callV0 (within_fn (by decide)) rfl rfl ?_
  rw [h]
  simp (maxSteps := 1000000) (disch := (first | omega | (simp only [lnA, List.length_map, List.length_range, true_and, and_true]; (try omega); done) | fail)) only [go_sem, Int.reduceEq, Int.reduceToNat, Nat.reduceAdd, Nat.reduceMul, Nat.reduceEqDiff, ↓reduceIte]
  refine loopW (X := Nat) (st := fun e => ([(0, .lit (.int .i64 (N : Int))), (3, .lit (.int .i64 (e : Int)))], []))
    (inv := fun e => e ≤ 40 ∧ 2 ^ e ≤ N) (m := fun e => 41 - e) 0 [] ⟨by omega, by omega⟩ ?_
  rintro e ⟨he, hle⟩
  have hs := sh1_i64 (k := e + 1) (by omega)
  have hcv : (e : Int) + 1 = ((e + 1 : Nat) : Int) := by omega
  by_cases hgo : 2 ^ (e + 1) ≤ N
  · have he2 : e + 1 ≤ 40 := by
      refine Classical.byContradiction fun hn => ?_
      have : 2 ^ 41 ≤ 2 ^ (e + 1) := Nat.pow_le_pow_right (by decide) (by omega)
      omega
    simp (maxSteps := 1000000) (disch := (first | omega | (simp only [lnA, List.length_map, List.length_range, true_and, and_true]; (try omega); done) | fail)) only [go_sem, hcv, hs, Int.reduceEq, Int.reduceToNat, Nat.reduceAdd, Nat.reduceMul, Nat.reduceEqDiff, ↓reduceIte]
    refine nextW (e + 1) [] ⟨he2, hgo⟩ (by omega)
  · have hbe : bl N = e + 1 := bl_eq hle (by omega)
    rw [hbe, Nat.add_sub_cancel] at hQ b3 b4
    have hin := lgi_in (K := K62) (by decide) ⟨b3, b4⟩ (o := e)
    obtain ⟨P, hP⟩ : ∃ P : Nat, P = K62 := ⟨_, rfl⟩
    have hPv : P = 4611686018427387904 := hP
    have hp62 : 2 ^ 62 = P := by rw [hPv]
    have d2 : (dg 2).length ≤ 5 := dg5 (by decide)
    have hpw : ∀ i, i ≤ 62 → (dg (2 ^ i)).length ≤ 400000 := fun i hi => Nat.le_trans (dg5 (Nat.lt_of_le_of_lt (Nat.pow_le_pow_right (by decide) hi) (by decide))) (by decide)
    have dP : (dg P).length ≤ 5 := dg5 (by omega)
    have dPP : (dg (P + P)).length ≤ 5 := dg5 (by omega)
    have dN : (dg N).length ≤ 5 := dg5 (by omega)
    have h62e : (62 : Int) - (e : Int) = ((62 - e : Nat) : Int) := by omega
    have h6 : (6 : Nat) = 6 := rfl
    have hp62c : Fn1 Tryz.prog 26 [DV 2, .lit (.int .i64 62)] [] (DV P) [] := by
      have := lpow_fn (a := 2) (n := 62) (by decide) (Nat.le_trans d2 (by decide)) hpw
      rw [hp62] at this
      exact this
    have h2c : Fn1 Tryz.prog 27 [.lit (.int .i64 2)] [] (DV 2) [] := small_fn (n := 2) (by decide)
    rw [← hP] at hQ b3 b4 hin
    simp (maxSteps := 1000000) (disch := (first | omega | (simp only [lnA, List.length_map, List.length_range, true_and, and_true]; (try omega); done) | fail)) only [go_sem, hcv, hs, Int.reduceEq, Int.reduceToNat, Nat.reduceAdd, Nat.reduceMul, Nat.reduceEqDiff, ↓reduceIte]
    refine callV0 (h2c) rfl rfl ?_
    simp (maxSteps := 1000000) (disch := (first | omega | (simp only [lnA, List.length_map, List.length_range, true_and, and_true]; (try omega); done) | fail)) only [go_sem, Int.reduceEq, Int.reduceToNat, Nat.reduceAdd, Nat.reduceMul, Nat.reduceEqDiff, ↓reduceIte]
    refine callV0 (hp62c) rfl rfl ?_
    simp (maxSteps := 1000000) (disch := (first | omega | (simp only [lnA, List.length_map, List.length_range, true_and, and_true]; (try omega); done) | fail)) only [go_sem, Int.reduceEq, Int.reduceToNat, Nat.reduceAdd, Nat.reduceMul, Nat.reduceEqDiff, ↓reduceIte]
    refine callV0 (ladd_fn (a := P) (b := P) (by omega) (by omega)) rfl rfl ?_
    simp (maxSteps := 1000000) (disch := (first | omega | (simp only [lnA, List.length_map, List.length_range, true_and, and_true]; (try omega); done) | fail)) only [go_sem, Int.reduceEq, Int.reduceToNat, Nat.reduceAdd, Nat.reduceMul, Nat.reduceEqDiff, ↓reduceIte]
    refine callV0 (small_fn (n := N) (by omega)) rfl rfl ?_
    simp (maxSteps := 1000000) (disch := (first | omega | (simp only [lnA, List.length_map, List.length_range, true_and, and_true]; (try omega); done) | fail)) only [go_sem, Int.reduceEq, Int.reduceToNat, Nat.reduceAdd, Nat.reduceMul, Nat.reduceEqDiff, ↓reduceIte]
    refine callV0 (h2c) rfl rfl ?_
    simp (maxSteps := 1000000) (disch := (first | omega | (simp only [lnA, List.length_map, List.length_range, true_and, and_true]; (try omega); done) | fail)) only [go_sem, h62e, Int.reduceEq, Int.reduceToNat, Nat.reduceAdd, Nat.reduceMul, Nat.reduceEqDiff, ↓reduceIte]
    refine callV0 (lpow_fn (a := 2) (n := 62 - e) (by omega) (Nat.le_trans d2 (by decide)) (fun i hi => hpw i (by omega))) rfl rfl ?_
    simp (maxSteps := 1000000) (disch := (first | omega | (simp only [lnA, List.length_map, List.length_range, true_and, and_true]; (try omega); done) | fail)) only [go_sem, Int.reduceEq, Int.reduceToNat, Nat.reduceAdd, Nat.reduceMul, Nat.reduceEqDiff, ↓reduceIte]
    refine callV0 (lmul_fn (a := N) (b := 2 ^ (62 - e)) (by omega) (Nat.le_trans (hpw (62 - e) (by omega)) (by decide))) rfl rfl ?_
    generalize N * 2 ^ (62 - e) = x0 at *
    simp (maxSteps := 1000000) (disch := (first | omega | (simp only [lnA, List.length_map, List.length_range, true_and, and_true]; (try omega); done) | fail)) only [go_sem, Int.reduceEq, Int.reduceToNat, Nat.reduceAdd, Nat.reduceMul, Nat.reduceEqDiff, ↓reduceIte]
    refine LoopV_of (X := Nat) (st := fun j => ([(4, DV P), (5, DV (P + P)), (6, DV (lgi P (x0, e) j).1), (7, .lit (.int .i64 (((lgi P (x0, e) j).2 : Nat) : Int))), (8, .lit (.int .i64 (j : Int)))], []))
      (inv := fun j => j ≤ 28) (m := fun j => 28 - j) 0 [] rfl (by simp (disch := (first | omega | (simp only [lnA, List.length_map, List.length_range, true_and, and_true]; (try omega); done) | fail)) only [go_sem, Int.reduceEq, Int.reduceToNat, Nat.reduceAdd, Nat.reduceMul, Nat.reduceEqDiff, ↓reduceIte, true_and, and_true, and_self, List.drop_zero, List.take_length, Nat.le_refl, V.lit.injEq, Value.int.injEq, Value.bool.injEq]; try (first | omega | (simp; done) | (simp; omega))) (by rw [show lgi P (x0, e) 0 = (x0, e) from rfl]; (simp (disch := (first | omega | (simp only [lnA, List.length_map, List.length_range, true_and, and_true]; (try omega); done) | fail)) only [go_sem, Int.reduceEq, Int.reduceToNat, Nat.reduceAdd, Nat.reduceMul, Nat.reduceEqDiff, ↓reduceIte, true_and, and_true, and_self, List.drop_zero, List.take_length, Nat.le_refl, V.lit.injEq, Value.int.injEq, Value.bool.injEq]; try (first | omega | (simp; done) | (simp; omega)))) (by omega) ?_
    intro j hj
    obtain ⟨c1, c2, c3⟩ := hin j
    have hp2 : 2 ^ j ≤ 2 ^ 28 := Nat.pow_le_pow_right (by decide) hj
    have hp3 : (e + 1) * 2 ^ j ≤ 41 * 2 ^ 28 := Nat.mul_le_mul (by omega) hp2
    rw [show (2 : Nat) ^ 28 = 268435456 by decide] at hp3
    by_cases hj28 : j < 28
    · have hst : lgi P (x0, e) (j + 1) = lgs P (lgi P (x0, e) j) := rfl
      generalize hs' : lgi P (x0, e) j = s at *
      obtain ⟨y, o⟩ := s
      simp only at c1 c2 c3
      unfold lgs at hst
      simp only at hst
      have hyy : y * y < 9223372036854775808 * 9223372036854775808 := Nat.mul_lt_mul'' (by omega) (by omega)
      have hyl : (dg y).length ≤ 5 := dg5 (by omega)
      have hyyl := dg_mul y y
      have hzq : y * y / P < 18446744073709551616 := by
        rw [Nat.div_lt_iff_lt_mul (by omega), hPv]
        omega
      have hql := dg5 hzq
      simp (maxSteps := 1000000) (disch := (first | omega | (simp only [lnA, List.length_map, List.length_range, true_and, and_true]; (try omega); done) | fail)) only [go_sem, Int.reduceEq, Int.reduceToNat, Nat.reduceAdd, Nat.reduceMul, Nat.reduceEqDiff, ↓reduceIte]
      refine callV0 (lmul_fn (a := y) (b := y) (by omega) (by omega)) rfl rfl ?_
      simp (maxSteps := 1000000) (disch := (first | omega | (simp only [lnA, List.length_map, List.length_range, true_and, and_true]; (try omega); done) | fail)) only [go_sem, Int.reduceEq, Int.reduceToNat, Nat.reduceAdd, Nat.reduceMul, Nat.reduceEqDiff, ↓reduceIte]
      refine callV0 (ldiv_fn (a := y * y) (b := P) (by omega) (by omega) (by omega)) rfl rfl ?_
      generalize y * y / P = q at *
      simp (maxSteps := 1000000) (disch := (first | omega | (simp only [lnA, List.length_map, List.length_range, true_and, and_true]; (try omega); done) | fail)) only [go_sem, Int.reduceEq, Int.reduceToNat, Nat.reduceAdd, Nat.reduceMul, Nat.reduceEqDiff, ↓reduceIte]
      refine callV0 (lcmp_fn (a := q) (b := P + P) (by omega) (by omega)) rfl rfl ?_
      by_cases hc : 2 * P ≤ q
      · rw [if_pos hc] at hst
        have hcm : (0 : Int) ≤ cmpI q (P + P) := by unfold cmpI; rw [if_neg (by omega)]; split <;> decide
        simp (maxSteps := 1000000) (disch := (first | omega | (simp only [lnA, List.length_map, List.length_range, true_and, and_true]; (try omega); done) | fail)) only [go_sem, decide_eq_true hcm, Int.reduceEq, Int.reduceToNat, Nat.reduceAdd, Nat.reduceMul, Nat.reduceEqDiff, ↓reduceIte]
        refine callV0 (h2c) rfl rfl ?_
        simp (maxSteps := 1000000) (disch := (first | omega | (simp only [lnA, List.length_map, List.length_range, true_and, and_true]; (try omega); done) | fail)) only [go_sem, Int.reduceEq, Int.reduceToNat, Nat.reduceAdd, Nat.reduceMul, Nat.reduceEqDiff, ↓reduceIte]
        refine callV0 (ldiv_fn (a := q) (b := 2) (by decide) (by omega) (Nat.le_trans d2 (by decide))) rfl rfl ?_
        simp (maxSteps := 1000000) (disch := (first | omega | (simp only [lnA, List.length_map, List.length_range, true_and, and_true]; (try omega); done) | fail)) only [go_sem, Int.reduceEq, Int.reduceToNat, Nat.reduceAdd, Nat.reduceMul, Nat.reduceEqDiff, ↓reduceIte]
        refine NextV_of (j + 1) [] rfl (by simp (disch := (first | omega | (simp only [lnA, List.length_map, List.length_range, true_and, and_true]; (try omega); done) | fail)) only [go_sem, Int.reduceEq, Int.reduceToNat, Nat.reduceAdd, Nat.reduceMul, Nat.reduceEqDiff, ↓reduceIte, true_and, and_true, and_self, List.drop_zero, List.take_length, Nat.le_refl, V.lit.injEq, Value.int.injEq, Value.bool.injEq]; try (first | omega | (simp; done) | (simp; omega))) (by dsimp only; rw [hst]; (simp (disch := (first | omega | (simp only [lnA, List.length_map, List.length_range, true_and, and_true]; (try omega); done) | fail)) only [go_sem, Int.reduceEq, Int.reduceToNat, Nat.reduceAdd, Nat.reduceMul, Nat.reduceEqDiff, ↓reduceIte, true_and, and_true, and_self, List.drop_zero, List.take_length, Nat.le_refl, V.lit.injEq, Value.int.injEq, Value.bool.injEq]; try (first | omega | (simp; done) | (simp; omega)))) (by omega) (by omega)
      · rw [if_neg hc] at hst
        have hcm : ¬ (0 : Int) ≤ cmpI q (P + P) := by unfold cmpI; rw [if_pos (by omega)]; decide
        simp (maxSteps := 1000000) (disch := (first | omega | (simp only [lnA, List.length_map, List.length_range, true_and, and_true]; (try omega); done) | fail)) only [go_sem, decide_eq_false hcm, Int.reduceEq, Int.reduceToNat, Nat.reduceAdd, Nat.reduceMul, Nat.reduceEqDiff, ↓reduceIte]
        refine NextV_of (j + 1) [] rfl (by simp (disch := (first | omega | (simp only [lnA, List.length_map, List.length_range, true_and, and_true]; (try omega); done) | fail)) only [go_sem, Int.reduceEq, Int.reduceToNat, Nat.reduceAdd, Nat.reduceMul, Nat.reduceEqDiff, ↓reduceIte, true_and, and_true, and_self, List.drop_zero, List.take_length, Nat.le_refl, V.lit.injEq, Value.int.injEq, Value.bool.injEq]; try (first | omega | (simp; done) | (simp; omega))) (by dsimp only; rw [hst]; (simp (disch := (first | omega | (simp only [lnA, List.length_map, List.length_range, true_and, and_true]; (try omega); done) | fail)) only [go_sem, Int.reduceEq, Int.reduceToNat, Nat.reduceAdd, Nat.reduceMul, Nat.reduceEqDiff, ↓reduceIte, true_and, and_true, and_self, List.drop_zero, List.take_length, Nat.le_refl, V.lit.injEq, Value.int.injEq, Value.bool.injEq]; try (first | omega | (simp; done) | (simp; omega)))) (by omega) (by omega)
    · obtain rfl : j = 28 := by omega
      simp (maxSteps := 1000000) (disch := (first | omega | (simp only [lnA, List.length_map, List.length_range, true_and, and_true]; (try omega); done) | fail)) only [go_sem, Int.reduceEq, Int.reduceToNat, Nat.reduceAdd, Nat.reduceMul, Nat.reduceEqDiff, ↓reduceIte]
      exact endW [] hQ
end Go.Proofs.YtdmdmdoeahhkiaaGreatDoor
