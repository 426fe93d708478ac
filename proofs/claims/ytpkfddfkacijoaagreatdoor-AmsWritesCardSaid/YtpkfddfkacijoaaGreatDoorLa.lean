import Derived.Test.YtpkfddfkacijoaaGreatDoorRh
import Derived.Test.YtpkfddfkacijoaaGreatDoorN2
import Derived.Test.YtpkfddfkacijoaaGreatDoorFa
namespace Go.Proofs.YtpkfddfkacijoaaGreatDoor
open Go.Eng Go.Vx
set_option linter.unusedSimpArgs false
set_option linter.unusedVariables false
set_option maxRecDepth 100000
theorem len_fn {n : Nat} (hn : n < 18446744073709551616) : Fn1 Tryz.prog 159 [.lit (.int .u64 n)] [] (.lit (.int .i64 (bl n : Int))) [] := by
  refine fn1N_of pl159 (by kernel_rfl) Tryz.call159 Tryz.func159 rfl (by kernel_rfl) rfl [.tmp 2] (by kernel_rfl) fun Q hQ => ?_
  simp (maxSteps := 1000000) (disch := (first | omega | (simp only [lnA, List.length_map, List.length_range, true_and, and_true]; (try omega); done) | fail)) only [go_sem, Int.reduceEq, Int.reduceToNat, Nat.reduceAdd, Nat.reduceMul, Nat.reduceEqDiff, ↓reduceIte]
  refine callV0 (len64_fn hn) rfl rfl ?_
  simp (maxSteps := 1000000) (disch := (first | omega | (simp only [lnA, List.length_map, List.length_range, true_and, and_true]; (try omega); done) | fail)) only [go_sem, Int.reduceEq, Int.reduceToNat, Nat.reduceAdd, Nat.reduceMul, Nat.reduceEqDiff, ↓reduceIte]
  exact endW [] hQ
theorem or_i64 {x y : Nat} (hx : x < 9223372036854775808) (hy : y < 9223372036854775808) : bitK .or .i64 (x : Int) (y : Int) = ((x ||| y : Nat) : Int) := by
  have e3 : (BitVec.ofInt 64 (x : Int) ||| BitVec.ofInt 64 (y : Int)).toNat = x ||| y := by
    rw [BitVec.toNat_or, BitVec.ofInt_natCast, BitVec.ofInt_natCast, BitVec.toNat_ofNat, BitVec.toNat_ofNat, Nat.mod_eq_of_lt (by omega), Nat.mod_eq_of_lt (by omega)]
  have hl := Nat.or_lt_two_pow (n := 63) hx hy
  show IntKind.i64.wrap ((BitVec.ofInt 64 (x : Int) ||| BitVec.ofInt 64 (y : Int)).toNat : Int) = _
  rw [e3]
  generalize x ||| y = z at *
  have : (z : Int) < 9223372036854775808 := by omega
  simp (maxSteps := 1000000) (disch := (first | omega | (simp only [lnA, List.length_map, List.length_range, true_and, and_true]; (try omega); done) | fail)) only [go_sem, Int.reduceEq, Int.reduceToNat, Nat.reduceAdd, Nat.reduceMul, Nat.reduceEqDiff, ↓reduceIte]
theorem or_one64 {x : Nat} (h : x < 4611686018427387904) : bitK .or .i64 ((x : Int) * 2) 1 = ((2 * x + 1 : Nat) : Int) := by
  have h1 : (x : Int) * 2 = ((2 * x : Nat) : Int) := by omega
  have h2 := or_i64 (x := 2 * x) (y := 1) (by omega) (by decide)
  have h3 := Nat.two_pow_add_eq_or_of_lt (i := 1) (b := 1) (by decide) x
  rw [show (2 : Nat) ^ 1 = 2 from rfl] at h3
  rw [h1, h3]
  exact h2
theorem or_four (a b : Nat) (hb : b < 4) : a * 4 ||| b = a * 4 + b := by
  have := Nat.two_pow_add_eq_or_of_lt (i := 2) (b := b) hb a
  rw [show (2 : Nat) ^ 2 = 4 from rfl, Nat.mul_comm 4 a] at this
  exact this.symm
theorem log2_fn {N : Nat} {n : Int} (h : max 1 (min n 1099511627776) = (N : Int)) : Fn1 Tryz.prog 135 [.lit (.int .i64 n)] [] (.lit (.int .i64 ((lgN N : Nat) : Int))) [] := by
  refine fn1N_of pl135 (by kernel_rfl) Tryz.call135 Tryz.func135 rfl (by kernel_rfl) rfl [.tmp 2] (by kernel_rfl) fun Q hQ => ?_
  have hN : 0 < N ∧ N ≤ 1099511627776 := by omega
  obtain ⟨b1, b2, b3, b4⟩ := lg_start hN.1 hN.2
  unfold lgN at hQ
  simp (maxSteps := 1000000) (disch := (first | omega | (simp only [lnA, List.length_map, List.length_range, true_and, and_true]; (try omega); done) | fail)) only [go_sem, h, Int.reduceEq, Int.reduceToNat, Nat.reduceAdd, Nat.reduceMul, Nat.reduceEqDiff, ↓reduceIte]
  refine callV0 (len_fn (n := N) (by omega)) rfl rfl ?_
  have hK : K62 = 4611686018427387904 := rfl
  have hb : (bl N : Int) - 1 = ((bl N - 1 : Nat) : Int) := by omega
  have h62 : ((62 : Int) - ((bl N - 1 : Nat) : Int)).toNat = 62 - (bl N - 1) := by omega
  have hsh := wrap_mul N (62 - (bl N - 1))
  rw [Nat.mod_eq_of_lt (by omega)] at hsh
  have hin := lgi_in (K := K62) (by decide) ⟨b3, b4⟩ (o := bl N - 1)
  generalize N * 2 ^ (62 - (bl N - 1)) = x0 at *
  have hbl : bl N - 1 ≤ 40 := by omega
  generalize bl N - 1 = e at *
  simp (maxSteps := 1000000) (disch := (first | omega | (simp only [lnA, List.length_map, List.length_range, true_and, and_true]; (try omega); done) | fail)) only [go_sem, hb, h62, hsh, Int.reduceEq, Int.reduceToNat, Nat.reduceAdd, Nat.reduceMul, Nat.reduceEqDiff, ↓reduceIte]
  refine LoopV_of (X := Nat) (st := fun j => ([(4, .lit (.int .u64 (((lgi K62 (x0, e) j).1 : Nat) : Int))), (5, .lit (.int .i64 (((lgi K62 (x0, e) j).2 : Nat) : Int))), (21, .lit (.int .i64 (j : Int)))], []))
    (inv := fun j => j ≤ 28) (m := fun j => 28 - j) 0 [] rfl (by simp (disch := (first | omega | (simp only [lnA, List.length_map, List.length_range, true_and, and_true]; (try omega); done) | fail)) only [go_sem, Int.reduceEq, Int.reduceToNat, Nat.reduceAdd, Nat.reduceMul, Nat.reduceEqDiff, ↓reduceIte, true_and, and_true, and_self, List.drop_zero, List.take_length, Nat.le_refl, V.lit.injEq, Value.int.injEq, Value.bool.injEq]; try (first | omega | (simp; done) | (simp; omega))) (by rw [show lgi K62 (x0, e) 0 = (x0, e) from rfl]; (simp (disch := (first | omega | (simp only [lnA, List.length_map, List.length_range, true_and, and_true]; (try omega); done) | fail)) only [go_sem, Int.reduceEq, Int.reduceToNat, Nat.reduceAdd, Nat.reduceMul, Nat.reduceEqDiff, ↓reduceIte, true_and, and_true, and_self, List.drop_zero, List.take_length, Nat.le_refl, V.lit.injEq, Value.int.injEq, Value.bool.injEq]; try (first | omega | (simp; done) | (simp; omega)))) (by omega) ?_
  intro j hj
  obtain ⟨c1, c2, c3⟩ := hin j
  have hp2 : 2 ^ j ≤ 2 ^ 28 := Nat.pow_le_pow_right (by decide) hj
  have hp3 : (e + 1) * 2 ^ j ≤ 41 * 2 ^ 28 := Nat.mul_le_mul (by omega) hp2
  rw [show (2 : Nat) ^ 28 = 268435456 by decide] at hp3
  by_cases hj28 : j < 28
  · have hst : lgi K62 (x0, e) (j + 1) = lgs 4611686018427387904 (lgi K62 (x0, e) j) := rfl
    generalize hs : lgi K62 (x0, e) j = s at *
    obtain ⟨y, o⟩ := s
    simp only at c1 c2 c3
    rw [hK] at c1 c2
    unfold lgs at hst
    simp only at hst
    have hyy : y * y < 9223372036854775808 * 9223372036854775808 := Nat.mul_lt_mul'' (by omega) (by omega)
    simp (maxSteps := 1000000) (disch := (first | omega | (simp only [lnA, List.length_map, List.length_range, true_and, and_true]; (try omega); done) | fail)) only [go_sem, Int.reduceEq, Int.reduceToNat, Nat.reduceAdd, Nat.reduceMul, Nat.reduceEqDiff, ↓reduceIte]
    refine callV0 (mul64_fn (x := y) (y := y) (by omega) (by omega)) rfl rfl ?_
    generalize y * y = z at *
    have f1 : ((z / 18446744073709551616 : Nat) : Int) * 4 = ((z / 18446744073709551616 * 4 : Nat) : Int) := by omega
    have f2 : ((z % 18446744073709551616 : Nat) : Int) / 4611686018427387904 = ((z % 18446744073709551616 / 4611686018427387904 : Nat) : Int) := by omega
    have f3 : bitK .or .u64 ((z / 18446744073709551616 * 4 : Nat) : Int) ((z % 18446744073709551616 / 4611686018427387904 : Nat) : Int) = ((z / 4611686018427387904 : Nat) : Int) := by
      rw [or_u64 (by omega) (by omega), or_four _ _ (by omega)]
      omega
    have f4 := or_one64 (x := o) (by omega)
    have hzl : z / 18446744073709551616 < 4611686018427387904 := by omega
    by_cases hc : 2 * 4611686018427387904 ≤ z / 4611686018427387904
    · rw [if_pos hc] at hst
      have f5 : ((z / 4611686018427387904 : Nat) : Int) / 2 = ((z / 4611686018427387904 / 2 : Nat) : Int) := by omega
      simp (maxSteps := 1000000) (disch := (first | omega | (simp only [lnA, List.length_map, List.length_range, true_and, and_true]; (try omega); done) | fail)) only [go_sem, f1, f2, f3, f4, f5, Int.reduceEq, Int.reduceToNat, Nat.reduceAdd, Nat.reduceMul, Nat.reduceEqDiff, ↓reduceIte]
      refine NextV_of (j + 1) [] rfl (by simp (disch := (first | omega | (simp only [lnA, List.length_map, List.length_range, true_and, and_true]; (try omega); done) | fail)) only [go_sem, Int.reduceEq, Int.reduceToNat, Nat.reduceAdd, Nat.reduceMul, Nat.reduceEqDiff, ↓reduceIte, true_and, and_true, and_self, List.drop_zero, List.take_length, Nat.le_refl, V.lit.injEq, Value.int.injEq, Value.bool.injEq]; try (first | omega | (simp; done) | (simp; omega))) (by dsimp only; rw [hst]; (simp (disch := (first | omega | (simp only [lnA, List.length_map, List.length_range, true_and, and_true]; (try omega); done) | fail)) only [go_sem, Int.reduceEq, Int.reduceToNat, Nat.reduceAdd, Nat.reduceMul, Nat.reduceEqDiff, ↓reduceIte, true_and, and_true, and_self, List.drop_zero, List.take_length, Nat.le_refl, V.lit.injEq, Value.int.injEq, Value.bool.injEq]; try (first | omega | (simp; done) | (simp; omega)))) (by omega) (by omega)
    · rw [if_neg hc] at hst
      simp (maxSteps := 1000000) (disch := (first | omega | (simp only [lnA, List.length_map, List.length_range, true_and, and_true]; (try omega); done) | fail)) only [go_sem, f1, f2, f3, Int.reduceEq, Int.reduceToNat, Nat.reduceAdd, Nat.reduceMul, Nat.reduceEqDiff, ↓reduceIte]
      refine NextV_of (j + 1) [] rfl (by simp (disch := (first | omega | (simp only [lnA, List.length_map, List.length_range, true_and, and_true]; (try omega); done) | fail)) only [go_sem, Int.reduceEq, Int.reduceToNat, Nat.reduceAdd, Nat.reduceMul, Nat.reduceEqDiff, ↓reduceIte, true_and, and_true, and_self, List.drop_zero, List.take_length, Nat.le_refl, V.lit.injEq, Value.int.injEq, Value.bool.injEq]; try (first | omega | (simp; done) | (simp; omega))) (by dsimp only; rw [hst]; (simp (disch := (first | omega | (simp only [lnA, List.length_map, List.length_range, true_and, and_true]; (try omega); done) | fail)) only [go_sem, Int.reduceEq, Int.reduceToNat, Nat.reduceAdd, Nat.reduceMul, Nat.reduceEqDiff, ↓reduceIte, true_and, and_true, and_self, List.drop_zero, List.take_length, Nat.le_refl, V.lit.injEq, Value.int.injEq, Value.bool.injEq]; try (first | omega | (simp; done) | (simp; omega)))) (by omega) (by omega)
  · obtain rfl : j = 28 := by omega
    simp (maxSteps := 1000000) (disch := (first | omega | (simp only [lnA, List.length_map, List.length_range, true_and, and_true]; (try omega); done) | fail)) only [go_sem, Int.reduceEq, Int.reduceToNat, Nat.reduceAdd, Nat.reduceMul, Nat.reduceEqDiff, ↓reduceIte]
    exact endW [] hQ
end Go.Proofs.YtpkfddfkacijoaaGreatDoor
