import Derived.Test.YtdpekigpjihnkaaRh
import Derived.Test.YtdpekigpjihnkaaRd
import Derived.Test.YtdpekigpjihnkaaRj
/-! Package logs; LogsIs, LogsPowers, LogsSums. -/
namespace Go.Proofs.Ytdpekigpjihnkaa
open Go.Eng Go.Vx
set_option linter.unusedSimpArgs false
set_option linter.unusedVariables false
set_option maxRecDepth 100000
theorem len_fn {n : Nat} (hn : n < 18446744073709551616) : Fn1 Try.prog 48 [.lit (.int .u64 n)] [] (.lit (.int .i64 (bl n : Int))) [] := by
  refine fn1_of pl48 (by kernel_rfl) Try.call48 Try.func48 rfl (by kernel_rfl) rfl [.tmp 2] (by kernel_rfl) fun Q hQ => ?_
  simp (disch := (first | omega | (simp only [List.length_append, List.length_set, List.length_cons, List.length_nil, List.length_replicate, List.length_take, List.length_drop, List.length_map, List.length_range, true_and, and_true]; (try omega); done) | fail)) only [go_sem, Int.reduceEq, Int.reduceToNat, Nat.reduceAdd, Nat.reduceMul, Nat.reduceEqDiff, ↓reduceIte]
  refine callV0 (len64_fn hn) rfl rfl ?_
  simp (disch := (first | omega | (simp only [List.length_append, List.length_set, List.length_cons, List.length_nil, List.length_replicate, List.length_take, List.length_drop, List.length_map, List.length_range, true_and, and_true]; (try omega); done) | fail)) only [go_sem, Int.reduceEq, Int.reduceToNat, Nat.reduceAdd, Nat.reduceMul, Nat.reduceEqDiff, ↓reduceIte]
  exact endW [] hQ
theorem or_i64 {x y : Nat} (hx : x < 9223372036854775808) (hy : y < 9223372036854775808) : bitK .or .i64 (x : Int) (y : Int) = ((x ||| y : Nat) : Int) := by
  have e3 : (BitVec.ofInt 64 (x : Int) ||| BitVec.ofInt 64 (y : Int)).toNat = x ||| y := by
    rw [BitVec.toNat_or, BitVec.ofInt_natCast, BitVec.ofInt_natCast, BitVec.toNat_ofNat, BitVec.toNat_ofNat, Nat.mod_eq_of_lt (by omega), Nat.mod_eq_of_lt (by omega)]
  have hl := Nat.or_lt_two_pow (n := 63) hx hy
  show IntKind.i64.wrap ((BitVec.ofInt 64 (x : Int) ||| BitVec.ofInt 64 (y : Int)).toNat : Int) = _
  rw [e3]
  generalize x ||| y = z at *
  have : (z : Int) < 9223372036854775808 := by omega
  simp (disch := (first | omega | (simp only [List.length_append, List.length_set, List.length_cons, List.length_nil, List.length_replicate, List.length_take, List.length_drop, List.length_map, List.length_range, true_and, and_true]; (try omega); done) | fail)) only [go_sem, Int.reduceEq, Int.reduceToNat, Nat.reduceAdd, Nat.reduceMul, Nat.reduceEqDiff, ↓reduceIte]
theorem or_one64 {x : Nat} (h : x < 4611686018427387904) : bitK .or .i64 ((x : Int) * 2) 1 = ((2 * x + 1 : Nat) : Int) := by
  have h1 : (x : Int) * 2 = ((2 * x : Nat) : Int) := by omega
  have h2 := or_i64 (x := 2 * x) (y := 1) (by omega) (by decide)
  have h3 := Nat.two_pow_add_eq_or_of_lt (i := 1) (b := 1) (by decide) x
  rw [show (2 : Nat) ^ 1 = 2 from rfl] at h3
  rw [h1, h3]
  exact h2
theorem or_four (a b : Nat) (hb : b < 4) : a * 4 ||| b = a * 4 + b := by
  have := Nat.two_pow_add_eq_or_of_lt (i := 2) (b := b) hb a
  rw [show (2 : Nat) ^ 2 = 4 from rfl, Nat.mul_comm 4 a] at this
  exact this.symm
theorem log2_fn {N : Nat} {n : Int} (h : max 1 (min n 1099511627776) = (N : Int)) : Fn1 Try.prog 25 [.lit (.int .i64 n)] [] (.lit (.int .i64 ((lgN N : Nat) : Int))) [] := by
  refine fn1_of pl25 (by kernel_rfl) Try.call25 Try.func25 rfl (by kernel_rfl) rfl [.tmp 2] (by kernel_rfl) fun Q hQ => ?_
  have hN : 0 < N ∧ N ≤ 1099511627776 := by omega
  obtain ⟨b1, b2, b3, b4⟩ := lg_start hN.1 hN.2
  unfold lgN at hQ
  simp (disch := (first | omega | (simp only [List.length_append, List.length_set, List.length_cons, List.length_nil, List.length_replicate, List.length_take, List.length_drop, List.length_map, List.length_range, true_and, and_true]; (try omega); done) | fail)) only [go_sem, h, Int.reduceEq, Int.reduceToNat, Nat.reduceAdd, Nat.reduceMul, Nat.reduceEqDiff, ↓reduceIte]
  refine callV0 (len_fn (n := N) (by omega)) rfl rfl ?_
  have hK : K62 = 4611686018427387904 := rfl
  have hb : (bl N : Int) - 1 = ((bl N - 1 : Nat) : Int) := by omega
  have h62 : ((62 : Int) - ((bl N - 1 : Nat) : Int)).toNat = 62 - (bl N - 1) := by omega
  have hsh := wrap_mul N (62 - (bl N - 1))
  rw [Nat.mod_eq_of_lt (by omega)] at hsh
  have hin := lgi_in (K := K62) (by decide) ⟨b3, b4⟩ (o := bl N - 1)
  generalize N * 2 ^ (62 - (bl N - 1)) = x0 at *
  have hbl : bl N - 1 ≤ 40 := by omega
  generalize bl N - 1 = e at *
  simp (disch := (first | omega | (simp only [List.length_append, List.length_set, List.length_cons, List.length_nil, List.length_replicate, List.length_take, List.length_drop, List.length_map, List.length_range, true_and, and_true]; (try omega); done) | fail)) only [go_sem, hb, h62, hsh, Int.reduceEq, Int.reduceToNat, Nat.reduceAdd, Nat.reduceMul, Nat.reduceEqDiff, ↓reduceIte]
  refine LoopV_of (X := Nat) (st := fun j => ([(4, .lit (.int .u64 (((lgi K62 (x0, e) j).1 : Nat) : Int))), (5, .lit (.int .i64 (((lgi K62 (x0, e) j).2 : Nat) : Int))), (21, .lit (.int .i64 (j : Int)))], []))
    (inv := fun j => j ≤ 28) (m := fun j => 28 - j) 0 [] rfl (by simp (disch := (first | omega | (simp only [List.length_append, List.length_set, List.length_cons, List.length_nil, List.length_replicate, List.length_take, List.length_drop, List.length_map, List.length_range, true_and, and_true]; (try omega); done) | fail)) only [go_sem, Int.reduceEq, Int.reduceToNat, Nat.reduceAdd, Nat.reduceMul, Nat.reduceEqDiff, ↓reduceIte, true_and, and_true, and_self, List.drop_zero, List.take_length, Nat.le_refl, V.lit.injEq, Value.int.injEq, Value.bool.injEq]; try (first | omega | (simp; done) | (simp; omega))) (by rw [show lgi K62 (x0, e) 0 = (x0, e) from rfl]; (simp (disch := (first | omega | (simp only [List.length_append, List.length_set, List.length_cons, List.length_nil, List.length_replicate, List.length_take, List.length_drop, List.length_map, List.length_range, true_and, and_true]; (try omega); done) | fail)) only [go_sem, Int.reduceEq, Int.reduceToNat, Nat.reduceAdd, Nat.reduceMul, Nat.reduceEqDiff, ↓reduceIte, true_and, and_true, and_self, List.drop_zero, List.take_length, Nat.le_refl, V.lit.injEq, Value.int.injEq, Value.bool.injEq]; try (first | omega | (simp; done) | (simp; omega)))) (by omega) ?_
  intro j hj
  obtain ⟨c1, c2, c3⟩ := hin j
  have hp2 : 2 ^ j ≤ 2 ^ 28 := Nat.pow_le_pow_right (by decide) hj
  have hp3 : (e + 1) * 2 ^ j ≤ 41 * 2 ^ 28 := Nat.mul_le_mul (by omega) hp2
  rw [show (2 : Nat) ^ 28 = 268435456 by decide] at hp3
  by_cases hj28 : j < 28
  · have hst : lgi K62 (x0, e) (j + 1) = lgs 4611686018427387904 (lgi K62 (x0, e) j) := rfl
    generalize hs : lgi K62 (x0, e) j = s at *
    obtain ⟨y, o⟩ := s
    simp only at c1 c2 c3
    rw [hK] at c1 c2
    unfold lgs at hst
    simp only at hst
    have hyy : y * y < 9223372036854775808 * 9223372036854775808 := Nat.mul_lt_mul'' (by omega) (by omega)
    simp (disch := (first | omega | (simp only [List.length_append, List.length_set, List.length_cons, List.length_nil, List.length_replicate, List.length_take, List.length_drop, List.length_map, List.length_range, true_and, and_true]; (try omega); done) | fail)) only [go_sem, Int.reduceEq, Int.reduceToNat, Nat.reduceAdd, Nat.reduceMul, Nat.reduceEqDiff, ↓reduceIte]
    refine callV0 (mul64_fn (x := y) (y := y) (by omega) (by omega)) rfl rfl ?_
    generalize y * y = z at *
    have f1 : ((z / 18446744073709551616 : Nat) : Int) * 4 = ((z / 18446744073709551616 * 4 : Nat) : Int) := by omega
    have f2 : ((z % 18446744073709551616 : Nat) : Int) / 4611686018427387904 = ((z % 18446744073709551616 / 4611686018427387904 : Nat) : Int) := by omega
    have f3 : bitK .or .u64 ((z / 18446744073709551616 * 4 : Nat) : Int) ((z % 18446744073709551616 / 4611686018427387904 : Nat) : Int) = ((z / 4611686018427387904 : Nat) : Int) := by
      rw [or_u64 (by omega) (by omega), or_four _ _ (by omega)]
      omega
    have f4 := or_one64 (x := o) (by omega)
    have hzl : z / 18446744073709551616 < 4611686018427387904 := by omega
    by_cases hc : 2 * 4611686018427387904 ≤ z / 4611686018427387904
    · rw [if_pos hc] at hst
      have f5 : ((z / 4611686018427387904 : Nat) : Int) / 2 = ((z / 4611686018427387904 / 2 : Nat) : Int) := by omega
      simp (disch := (first | omega | (simp only [List.length_append, List.length_set, List.length_cons, List.length_nil, List.length_replicate, List.length_take, List.length_drop, List.length_map, List.length_range, true_and, and_true]; (try omega); done) | fail)) only [go_sem, f1, f2, f3, f4, f5, Int.reduceEq, Int.reduceToNat, Nat.reduceAdd, Nat.reduceMul, Nat.reduceEqDiff, ↓reduceIte]
      refine NextV_of (j + 1) [] rfl (by simp (disch := (first | omega | (simp only [List.length_append, List.length_set, List.length_cons, List.length_nil, List.length_replicate, List.length_take, List.length_drop, List.length_map, List.length_range, true_and, and_true]; (try omega); done) | fail)) only [go_sem, Int.reduceEq, Int.reduceToNat, Nat.reduceAdd, Nat.reduceMul, Nat.reduceEqDiff, ↓reduceIte, true_and, and_true, and_self, List.drop_zero, List.take_length, Nat.le_refl, V.lit.injEq, Value.int.injEq, Value.bool.injEq]; try (first | omega | (simp; done) | (simp; omega))) (by dsimp only; rw [hst]; (simp (disch := (first | omega | (simp only [List.length_append, List.length_set, List.length_cons, List.length_nil, List.length_replicate, List.length_take, List.length_drop, List.length_map, List.length_range, true_and, and_true]; (try omega); done) | fail)) only [go_sem, Int.reduceEq, Int.reduceToNat, Nat.reduceAdd, Nat.reduceMul, Nat.reduceEqDiff, ↓reduceIte, true_and, and_true, and_self, List.drop_zero, List.take_length, Nat.le_refl, V.lit.injEq, Value.int.injEq, Value.bool.injEq]; try (first | omega | (simp; done) | (simp; omega)))) (by omega) (by omega)
    · rw [if_neg hc] at hst
      simp (disch := (first | omega | (simp only [List.length_append, List.length_set, List.length_cons, List.length_nil, List.length_replicate, List.length_take, List.length_drop, List.length_map, List.length_range, true_and, and_true]; (try omega); done) | fail)) only [go_sem, f1, f2, f3, Int.reduceEq, Int.reduceToNat, Nat.reduceAdd, Nat.reduceMul, Nat.reduceEqDiff, ↓reduceIte]
      refine NextV_of (j + 1) [] rfl (by simp (disch := (first | omega | (simp only [List.length_append, List.length_set, List.length_cons, List.length_nil, List.length_replicate, List.length_take, List.length_drop, List.length_map, List.length_range, true_and, and_true]; (try omega); done) | fail)) only [go_sem, Int.reduceEq, Int.reduceToNat, Nat.reduceAdd, Nat.reduceMul, Nat.reduceEqDiff, ↓reduceIte, true_and, and_true, and_self, List.drop_zero, List.take_length, Nat.le_refl, V.lit.injEq, Value.int.injEq, Value.bool.injEq]; try (first | omega | (simp; done) | (simp; omega))) (by dsimp only; rw [hst]; (simp (disch := (first | omega | (simp only [List.length_append, List.length_set, List.length_cons, List.length_nil, List.length_replicate, List.length_take, List.length_drop, List.length_map, List.length_range, true_and, and_true]; (try omega); done) | fail)) only [go_sem, Int.reduceEq, Int.reduceToNat, Nat.reduceAdd, Nat.reduceMul, Nat.reduceEqDiff, ↓reduceIte, true_and, and_true, and_self, List.drop_zero, List.take_length, Nat.le_refl, V.lit.injEq, Value.int.injEq, Value.bool.injEq]; try (first | omega | (simp; done) | (simp; omega)))) (by omega) (by omega)
  · obtain rfl : j = 28 := by omega
    simp (disch := (first | omega | (simp only [List.length_append, List.length_set, List.length_cons, List.length_nil, List.length_replicate, List.length_take, List.length_drop, List.length_map, List.length_range, true_and, and_true]; (try omega); done) | fail)) only [go_sem, Int.reduceEq, Int.reduceToNat, Nat.reduceAdd, Nat.reduceMul, Nat.reduceEqDiff, ↓reduceIte]
    exact endW [] hQ
theorem xlog_fn {N : Nat} {n : Int} (h : max 0 (min n 1048576) = (N : Int)) : Fn1 Try.prog 27 [.lit (.int .i64 n)] [] (.lit (.int .i64 ((N * lgN (max 1 N) : Nat) : Int))) [] := by
  refine fn1_of pl27 (by kernel_rfl) Try.call27 Try.func27 rfl (by kernel_rfl) rfl [.tmp 2] (by kernel_rfl) fun Q hQ => ?_
  have hN : N ≤ 1048576 := by omega
  have hl := lgN_le (n := max 1 N) (by omega) (by omega)
  have hm : N * lgN (max 1 N) ≤ 1048576 * (41 * 268435456) := Nat.mul_le_mul hN (by omega)
  have hc : (N : Int) * ((lgN (max 1 N) : Nat) : Int) = ((N * lgN (max 1 N) : Nat) : Int) := by simp
  simp (disch := (first | omega | (simp only [List.length_append, List.length_set, List.length_cons, List.length_nil, List.length_replicate, List.length_take, List.length_drop, List.length_map, List.length_range, true_and, and_true]; (try omega); done) | fail)) only [go_sem, h, Int.reduceEq, Int.reduceToNat, Nat.reduceAdd, Nat.reduceMul, Nat.reduceEqDiff, ↓reduceIte]
  refine callV0 (log2_fn (N := max 1 N) (n := (N : Int)) (by omega)) rfl rfl ?_
  simp (disch := (first | omega | (simp only [List.length_append, List.length_set, List.length_cons, List.length_nil, List.length_replicate, List.length_take, List.length_drop, List.length_map, List.length_range, true_and, and_true]; (try omega); done) | fail)) only [go_sem, hc, Int.reduceEq, Int.reduceToNat, Nat.reduceAdd, Nat.reduceMul, Nat.reduceEqDiff, ↓reduceIte]
  exact endW [] hQ
theorem diff_fn {N : Nat} {n : Int} (h : max 1 (min n 1048576) = (N : Int)) : Fn1 Try.prog 29 [.lit (.int .i64 n)] [] (.lit (.int .i64 (((N * lgN (max 1 N) : Nat) : Int) - (((N - 1) * lgN (max 1 (N - 1)) : Nat) : Int)))) [] := by
  refine fn1_of pl29 (by kernel_rfl) Try.call29 Try.func29 rfl (by kernel_rfl) rfl [.tmp 2] (by kernel_rfl) fun Q hQ => ?_
  have hN : 1 ≤ N ∧ N ≤ 1048576 := by omega
  have hl := lgN_le (n := max 1 N) (by omega) (by omega)
  have hm : N * lgN (max 1 N) ≤ 1048576 * (41 * 268435456) := Nat.mul_le_mul hN.2 (by omega)
  have hl2 := lgN_le (n := max 1 (N - 1)) (by omega) (by omega)
  have hm2 : (N - 1) * lgN (max 1 (N - 1)) ≤ 1048576 * (41 * 268435456) := Nat.mul_le_mul (by omega) (by omega)
  have hc : (N : Int) - 1 = ((N - 1 : Nat) : Int) := by omega
  simp (disch := (first | omega | (simp only [List.length_append, List.length_set, List.length_cons, List.length_nil, List.length_replicate, List.length_take, List.length_drop, List.length_map, List.length_range, true_and, and_true]; (try omega); done) | fail)) only [go_sem, h, Int.reduceEq, Int.reduceToNat, Nat.reduceAdd, Nat.reduceMul, Nat.reduceEqDiff, ↓reduceIte]
  refine callV0 (xlog_fn (N := N) (n := (N : Int)) (by omega)) rfl rfl ?_
  simp (disch := (first | omega | (simp only [List.length_append, List.length_set, List.length_cons, List.length_nil, List.length_replicate, List.length_take, List.length_drop, List.length_map, List.length_range, true_and, and_true]; (try omega); done) | fail)) only [go_sem, hc, Int.reduceEq, Int.reduceToNat, Nat.reduceAdd, Nat.reduceMul, Nat.reduceEqDiff, ↓reduceIte]
  refine callV0 (xlog_fn (N := N - 1) (n := ((N - 1 : Nat) : Int)) (by omega)) rfl rfl ?_
  simp (disch := (first | omega | (simp only [List.length_append, List.length_set, List.length_cons, List.length_nil, List.length_replicate, List.length_take, List.length_drop, List.length_map, List.length_range, true_and, and_true]; (try omega); done) | fail)) only [go_sem, Int.reduceEq, Int.reduceToNat, Nat.reduceAdd, Nat.reduceMul, Nat.reduceEqDiff, ↓reduceIte]
  exact endW [] hQ
theorem within_fn {n lo hi : Int} (h : lo ≤ hi) : Fn1 Try.prog 49 [.lit (.int .i64 n), .lit (.int .i64 lo), .lit (.int .i64 hi)] [] (.lit (.int .i64 (max lo (min n hi)))) [] := by
  refine fn1_of pl49 (by kernel_rfl) Try.call49 Try.func49 rfl (by kernel_rfl) rfl [.tmp 6] (by kernel_rfl) fun Q hQ => ?_
  by_cases h1 : n < lo
  · rw [show max lo (min n hi) = lo by omega] at hQ
    simp (disch := (first | omega | (simp only [List.length_append, List.length_set, List.length_cons, List.length_nil, List.length_replicate, List.length_take, List.length_drop, List.length_map, List.length_range, true_and, and_true]; (try omega); done) | fail)) only [go_sem, Int.reduceEq, Int.reduceToNat, Nat.reduceAdd, Nat.reduceMul, Nat.reduceEqDiff, ↓reduceIte]
    exact endW [] hQ
  · by_cases h2 : hi < n
    · rw [show max lo (min n hi) = hi by omega] at hQ
      simp (disch := (first | omega | (simp only [List.length_append, List.length_set, List.length_cons, List.length_nil, List.length_replicate, List.length_take, List.length_drop, List.length_map, List.length_range, true_and, and_true]; (try omega); done) | fail)) only [go_sem, Int.reduceEq, Int.reduceToNat, Nat.reduceAdd, Nat.reduceMul, Nat.reduceEqDiff, ↓reduceIte]
      exact endW [] hQ
    · rw [show max lo (min n hi) = n by omega] at hQ
      simp (disch := (first | omega | (simp only [List.length_append, List.length_set, List.length_cons, List.length_nil, List.length_replicate, List.length_take, List.length_drop, List.length_map, List.length_range, true_and, and_true]; (try omega); done) | fail)) only [go_sem, Int.reduceEq, Int.reduceToNat, Nat.reduceAdd, Nat.reduceMul, Nat.reduceEqDiff, ↓reduceIte]
      exact endW [] hQ
theorem sh1_i64 {k : Nat} (h : k < 63) : IntKind.i64.wrap (1 * 2 ^ k) = ((2 ^ k : Nat) : Int) := by
  have h1 : 2 ^ k ≤ 2 ^ 62 := Nat.pow_le_pow_right (by decide) (by omega)
  have h2 : (1 * 2 ^ k : Int) = ((2 ^ k : Nat) : Int) := by simp
  rw [h2]
  generalize 2 ^ k = x at *
  have : (x : Int) < 9223372036854775808 := by omega
  simp (disch := (first | omega | (simp only [List.length_append, List.length_set, List.length_cons, List.length_nil, List.length_replicate, List.length_take, List.length_drop, List.length_map, List.length_range, true_and, and_true]; (try omega); done) | fail)) only [go_sem, Int.reduceEq, Int.reduceToNat, Nat.reduceAdd, Nat.reduceMul, Nat.reduceEqDiff, ↓reduceIte]
theorem dg5 {n : Nat} (h : n < 18446744073709551616) : (dg n).length ≤ 5 := dg_len (Nat.lt_of_lt_of_le h (by decide))
theorem rlog2_fn {N : Nat} {n : Int} (h : max 1 (min n 1099511627776) = (N : Int)) : Fn1 Try.prog 26 [.lit (.int .i64 n)] [] (.lit (.int .i64 ((lgN N : Nat) : Int))) [] := by
  refine fn1_of pl26 (by kernel_rfl) Try.call26 Try.func26 rfl (by kernel_rfl) rfl [.tmp 2] (by kernel_rfl) fun Q hQ => ?_
  have hN : 0 < N ∧ N ≤ 1099511627776 := by omega
  obtain ⟨b1, b2, b3, b4⟩ := lg_start hN.1 hN.2
  have hbt := bl_le (n := N) (by omega)
  unfold lgN at hQ
  simp (disch := (first | omega | (simp only [List.length_append, List.length_set, List.length_cons, List.length_nil, List.length_replicate, List.length_take, List.length_drop, List.length_map, List.length_range, true_and, and_true]; (try omega); done) | fail)) only [go_sem, Int.reduceEq, Int.reduceToNat, Nat.reduceAdd, Nat.reduceMul, Nat.reduceEqDiff, ↓reduceIte]
  refine callV0 (within_fn (by decide)) rfl rfl ?_
  rw [h]
  simp (disch := (first | omega | (simp only [List.length_append, List.length_set, List.length_cons, List.length_nil, List.length_replicate, List.length_take, List.length_drop, List.length_map, List.length_range, true_and, and_true]; (try omega); done) | fail)) only [go_sem, Int.reduceEq, Int.reduceToNat, Nat.reduceAdd, Nat.reduceMul, Nat.reduceEqDiff, ↓reduceIte]
  refine LoopV_of (X := Nat) (st := fun e => ([(0, .lit (.int .i64 (N : Int))), (3, .lit (.int .i64 (e : Int)))], []))
    (inv := fun e => e ≤ 40 ∧ 2 ^ e ≤ N) (m := fun e => 41 - e) 0 [] rfl (by simp (disch := (first | omega | (simp only [List.length_append, List.length_set, List.length_cons, List.length_nil, List.length_replicate, List.length_take, List.length_drop, List.length_map, List.length_range, true_and, and_true]; (try omega); done) | fail)) only [go_sem, Int.reduceEq, Int.reduceToNat, Nat.reduceAdd, Nat.reduceMul, Nat.reduceEqDiff, ↓reduceIte, true_and, and_true, and_self, List.drop_zero, List.take_length, Nat.le_refl, V.lit.injEq, Value.int.injEq, Value.bool.injEq]; try (first | omega | (simp; done) | (simp; omega))) (by simp (disch := (first | omega | (simp only [List.length_append, List.length_set, List.length_cons, List.length_nil, List.length_replicate, List.length_take, List.length_drop, List.length_map, List.length_range, true_and, and_true]; (try omega); done) | fail)) only [go_sem, Int.reduceEq, Int.reduceToNat, Nat.reduceAdd, Nat.reduceMul, Nat.reduceEqDiff, ↓reduceIte, true_and, and_true, and_self, List.drop_zero, List.take_length, Nat.le_refl, V.lit.injEq, Value.int.injEq, Value.bool.injEq]; try (first | omega | (simp; done) | (simp; omega))) ⟨by omega, by omega⟩ ?_
  rintro e ⟨he, hle⟩
  have hs := sh1_i64 (k := e + 1) (by omega)
  have hcv : (e : Int) + 1 = ((e + 1 : Nat) : Int) := by omega
  by_cases hgo : 2 ^ (e + 1) ≤ N
  · have he2 : e + 1 ≤ 40 := by
      refine Classical.byContradiction fun hn => ?_
      have : 2 ^ 41 ≤ 2 ^ (e + 1) := Nat.pow_le_pow_right (by decide) (by omega)
      omega
    simp (disch := (first | omega | (simp only [List.length_append, List.length_set, List.length_cons, List.length_nil, List.length_replicate, List.length_take, List.length_drop, List.length_map, List.length_range, true_and, and_true]; (try omega); done) | fail)) only [go_sem, hcv, hs, Int.reduceEq, Int.reduceToNat, Nat.reduceAdd, Nat.reduceMul, Nat.reduceEqDiff, ↓reduceIte]
    refine nextW (e + 1) [] ⟨he2, hgo⟩ (by omega)
  · have hbe : bl N = e + 1 := bl_eq hle (by omega)
    rw [hbe, Nat.add_sub_cancel] at hQ b3 b4
    have hin := lgi_in (K := K62) (by decide) ⟨b3, b4⟩ (o := e)
    obtain ⟨P, hP⟩ : ∃ P : Nat, P = K62 := ⟨_, rfl⟩
    have hPv : P = 4611686018427387904 := hP
    have hp62 : 2 ^ 62 = P := by rw [hPv]
    have d2 : (dg 2).length ≤ 5 := dg5 (by decide)
    have hpw : ∀ i, i ≤ 62 → (dg (2 ^ i)).length ≤ 400000 := fun i hi => Nat.le_trans (dg5 (Nat.lt_of_le_of_lt (Nat.pow_le_pow_right (by decide) hi) (by decide))) (by decide)
    have dP : (dg P).length ≤ 5 := dg5 (by omega)
    have dPP : (dg (P + P)).length ≤ 5 := dg5 (by omega)
    have dN : (dg N).length ≤ 5 := dg5 (by omega)
    have h62e : (62 : Int) - (e : Int) = ((62 - e : Nat) : Int) := by omega
    have h6 : (6 : Nat) = 6 := rfl
    have hp62c : Fn1 Try.prog 50 [DV 2, .lit (.int .i64 62)] [] (DV P) [] := by
      have := lpow_fn (a := 2) (n := 62) (by decide) (Nat.le_trans d2 (by decide)) hpw
      rw [hp62] at this
      exact this
    have h2c : Fn1 Try.prog 51 [.lit (.int .i64 2)] [] (DV 2) [] := small_fn (n := 2) (by decide)
    rw [← hP] at hQ b3 b4 hin
    simp (disch := (first | omega | (simp only [List.length_append, List.length_set, List.length_cons, List.length_nil, List.length_replicate, List.length_take, List.length_drop, List.length_map, List.length_range, true_and, and_true]; (try omega); done) | fail)) only [go_sem, hcv, hs, Int.reduceEq, Int.reduceToNat, Nat.reduceAdd, Nat.reduceMul, Nat.reduceEqDiff, ↓reduceIte]
    refine callV0 (h2c) rfl rfl ?_
    simp (disch := (first | omega | (simp only [List.length_append, List.length_set, List.length_cons, List.length_nil, List.length_replicate, List.length_take, List.length_drop, List.length_map, List.length_range, true_and, and_true]; (try omega); done) | fail)) only [go_sem, Int.reduceEq, Int.reduceToNat, Nat.reduceAdd, Nat.reduceMul, Nat.reduceEqDiff, ↓reduceIte]
    refine callV0 (hp62c) rfl rfl ?_
    simp (disch := (first | omega | (simp only [List.length_append, List.length_set, List.length_cons, List.length_nil, List.length_replicate, List.length_take, List.length_drop, List.length_map, List.length_range, true_and, and_true]; (try omega); done) | fail)) only [go_sem, Int.reduceEq, Int.reduceToNat, Nat.reduceAdd, Nat.reduceMul, Nat.reduceEqDiff, ↓reduceIte]
    refine callV0 (ladd_fn (a := P) (b := P) (by omega) (by omega)) rfl rfl ?_
    simp (disch := (first | omega | (simp only [List.length_append, List.length_set, List.length_cons, List.length_nil, List.length_replicate, List.length_take, List.length_drop, List.length_map, List.length_range, true_and, and_true]; (try omega); done) | fail)) only [go_sem, Int.reduceEq, Int.reduceToNat, Nat.reduceAdd, Nat.reduceMul, Nat.reduceEqDiff, ↓reduceIte]
    refine callV0 (small_fn (n := N) (by omega)) rfl rfl ?_
    simp (disch := (first | omega | (simp only [List.length_append, List.length_set, List.length_cons, List.length_nil, List.length_replicate, List.length_take, List.length_drop, List.length_map, List.length_range, true_and, and_true]; (try omega); done) | fail)) only [go_sem, Int.reduceEq, Int.reduceToNat, Nat.reduceAdd, Nat.reduceMul, Nat.reduceEqDiff, ↓reduceIte]
    refine callV0 (h2c) rfl rfl ?_
    simp (disch := (first | omega | (simp only [List.length_append, List.length_set, List.length_cons, List.length_nil, List.length_replicate, List.length_take, List.length_drop, List.length_map, List.length_range, true_and, and_true]; (try omega); done) | fail)) only [go_sem, h62e, Int.reduceEq, Int.reduceToNat, Nat.reduceAdd, Nat.reduceMul, Nat.reduceEqDiff, ↓reduceIte]
    refine callV0 (lpow_fn (a := 2) (n := 62 - e) (by omega) (Nat.le_trans d2 (by decide)) (fun i hi => hpw i (by omega))) rfl rfl ?_
    simp (disch := (first | omega | (simp only [List.length_append, List.length_set, List.length_cons, List.length_nil, List.length_replicate, List.length_take, List.length_drop, List.length_map, List.length_range, true_and, and_true]; (try omega); done) | fail)) only [go_sem, Int.reduceEq, Int.reduceToNat, Nat.reduceAdd, Nat.reduceMul, Nat.reduceEqDiff, ↓reduceIte]
    refine callV0 (lmul_fn (a := N) (b := 2 ^ (62 - e)) (by omega) (Nat.le_trans (hpw (62 - e) (by omega)) (by decide))) rfl rfl ?_
    generalize N * 2 ^ (62 - e) = x0 at *
    simp (disch := (first | omega | (simp only [List.length_append, List.length_set, List.length_cons, List.length_nil, List.length_replicate, List.length_take, List.length_drop, List.length_map, List.length_range, true_and, and_true]; (try omega); done) | fail)) only [go_sem, Int.reduceEq, Int.reduceToNat, Nat.reduceAdd, Nat.reduceMul, Nat.reduceEqDiff, ↓reduceIte]
    refine LoopV_of (X := Nat) (st := fun j => ([(4, DV P), (5, DV (P + P)), (6, DV (lgi P (x0, e) j).1), (7, .lit (.int .i64 (((lgi P (x0, e) j).2 : Nat) : Int))), (8, .lit (.int .i64 (j : Int)))], []))
      (inv := fun j => j ≤ 28) (m := fun j => 28 - j) 0 [] rfl (by simp (disch := (first | omega | (simp only [List.length_append, List.length_set, List.length_cons, List.length_nil, List.length_replicate, List.length_take, List.length_drop, List.length_map, List.length_range, true_and, and_true]; (try omega); done) | fail)) only [go_sem, Int.reduceEq, Int.reduceToNat, Nat.reduceAdd, Nat.reduceMul, Nat.reduceEqDiff, ↓reduceIte, true_and, and_true, and_self, List.drop_zero, List.take_length, Nat.le_refl, V.lit.injEq, Value.int.injEq, Value.bool.injEq]; try (first | omega | (simp; done) | (simp; omega))) (by rw [show lgi P (x0, e) 0 = (x0, e) from rfl]; (simp (disch := (first | omega | (simp only [List.length_append, List.length_set, List.length_cons, List.length_nil, List.length_replicate, List.length_take, List.length_drop, List.length_map, List.length_range, true_and, and_true]; (try omega); done) | fail)) only [go_sem, Int.reduceEq, Int.reduceToNat, Nat.reduceAdd, Nat.reduceMul, Nat.reduceEqDiff, ↓reduceIte, true_and, and_true, and_self, List.drop_zero, List.take_length, Nat.le_refl, V.lit.injEq, Value.int.injEq, Value.bool.injEq]; try (first | omega | (simp; done) | (simp; omega)))) (by omega) ?_
    intro j hj
    obtain ⟨c1, c2, c3⟩ := hin j
    have hp2 : 2 ^ j ≤ 2 ^ 28 := Nat.pow_le_pow_right (by decide) hj
    have hp3 : (e + 1) * 2 ^ j ≤ 41 * 2 ^ 28 := Nat.mul_le_mul (by omega) hp2
    rw [show (2 : Nat) ^ 28 = 268435456 by decide] at hp3
    by_cases hj28 : j < 28
    · have hst : lgi P (x0, e) (j + 1) = lgs P (lgi P (x0, e) j) := rfl
      generalize hs' : lgi P (x0, e) j = s at *
      obtain ⟨y, o⟩ := s
      simp only at c1 c2 c3
      unfold lgs at hst
      simp only at hst
      have hyy : y * y < 9223372036854775808 * 9223372036854775808 := Nat.mul_lt_mul'' (by omega) (by omega)
      have hyl : (dg y).length ≤ 5 := dg5 (by omega)
      have hyyl := dg_mul y y
      have hzq : y * y / P < 18446744073709551616 := by
        rw [Nat.div_lt_iff_lt_mul (by omega), hPv]
        omega
      have hql := dg5 hzq
      simp (disch := (first | omega | (simp only [List.length_append, List.length_set, List.length_cons, List.length_nil, List.length_replicate, List.length_take, List.length_drop, List.length_map, List.length_range, true_and, and_true]; (try omega); done) | fail)) only [go_sem, Int.reduceEq, Int.reduceToNat, Nat.reduceAdd, Nat.reduceMul, Nat.reduceEqDiff, ↓reduceIte]
      refine callV0 (lmul_fn (a := y) (b := y) (by omega) (by omega)) rfl rfl ?_
      simp (disch := (first | omega | (simp only [List.length_append, List.length_set, List.length_cons, List.length_nil, List.length_replicate, List.length_take, List.length_drop, List.length_map, List.length_range, true_and, and_true]; (try omega); done) | fail)) only [go_sem, Int.reduceEq, Int.reduceToNat, Nat.reduceAdd, Nat.reduceMul, Nat.reduceEqDiff, ↓reduceIte]
      refine callV0 (ldiv_fn (a := y * y) (b := P) (by omega) (by omega) (by omega)) rfl rfl ?_
      generalize y * y / P = q at *
      simp (disch := (first | omega | (simp only [List.length_append, List.length_set, List.length_cons, List.length_nil, List.length_replicate, List.length_take, List.length_drop, List.length_map, List.length_range, true_and, and_true]; (try omega); done) | fail)) only [go_sem, Int.reduceEq, Int.reduceToNat, Nat.reduceAdd, Nat.reduceMul, Nat.reduceEqDiff, ↓reduceIte]
      refine callV0 (lcmp_fn (a := q) (b := P + P) (by omega) (by omega)) rfl rfl ?_
      by_cases hc : 2 * P ≤ q
      · rw [if_pos hc] at hst
        have hcm : (0 : Int) ≤ cmpI q (P + P) := by unfold cmpI; rw [if_neg (by omega)]; split <;> decide
        simp (disch := (first | omega | (simp only [List.length_append, List.length_set, List.length_cons, List.length_nil, List.length_replicate, List.length_take, List.length_drop, List.length_map, List.length_range, true_and, and_true]; (try omega); done) | fail)) only [go_sem, decide_eq_true hcm, Int.reduceEq, Int.reduceToNat, Nat.reduceAdd, Nat.reduceMul, Nat.reduceEqDiff, ↓reduceIte]
        refine callV0 (h2c) rfl rfl ?_
        simp (disch := (first | omega | (simp only [List.length_append, List.length_set, List.length_cons, List.length_nil, List.length_replicate, List.length_take, List.length_drop, List.length_map, List.length_range, true_and, and_true]; (try omega); done) | fail)) only [go_sem, Int.reduceEq, Int.reduceToNat, Nat.reduceAdd, Nat.reduceMul, Nat.reduceEqDiff, ↓reduceIte]
        refine callV0 (ldiv_fn (a := q) (b := 2) (by decide) (by omega) (Nat.le_trans d2 (by decide))) rfl rfl ?_
        simp (disch := (first | omega | (simp only [List.length_append, List.length_set, List.length_cons, List.length_nil, List.length_replicate, List.length_take, List.length_drop, List.length_map, List.length_range, true_and, and_true]; (try omega); done) | fail)) only [go_sem, Int.reduceEq, Int.reduceToNat, Nat.reduceAdd, Nat.reduceMul, Nat.reduceEqDiff, ↓reduceIte]
        refine NextV_of (j + 1) [] rfl (by simp (disch := (first | omega | (simp only [List.length_append, List.length_set, List.length_cons, List.length_nil, List.length_replicate, List.length_take, List.length_drop, List.length_map, List.length_range, true_and, and_true]; (try omega); done) | fail)) only [go_sem, Int.reduceEq, Int.reduceToNat, Nat.reduceAdd, Nat.reduceMul, Nat.reduceEqDiff, ↓reduceIte, true_and, and_true, and_self, List.drop_zero, List.take_length, Nat.le_refl, V.lit.injEq, Value.int.injEq, Value.bool.injEq]; try (first | omega | (simp; done) | (simp; omega))) (by dsimp only; rw [hst]; (simp (disch := (first | omega | (simp only [List.length_append, List.length_set, List.length_cons, List.length_nil, List.length_replicate, List.length_take, List.length_drop, List.length_map, List.length_range, true_and, and_true]; (try omega); done) | fail)) only [go_sem, Int.reduceEq, Int.reduceToNat, Nat.reduceAdd, Nat.reduceMul, Nat.reduceEqDiff, ↓reduceIte, true_and, and_true, and_self, List.drop_zero, List.take_length, Nat.le_refl, V.lit.injEq, Value.int.injEq, Value.bool.injEq]; try (first | omega | (simp; done) | (simp; omega)))) (by omega) (by omega)
      · rw [if_neg hc] at hst
        have hcm : ¬ (0 : Int) ≤ cmpI q (P + P) := by unfold cmpI; rw [if_pos (by omega)]; decide
        simp (disch := (first | omega | (simp only [List.length_append, List.length_set, List.length_cons, List.length_nil, List.length_replicate, List.length_take, List.length_drop, List.length_map, List.length_range, true_and, and_true]; (try omega); done) | fail)) only [go_sem, decide_eq_false hcm, Int.reduceEq, Int.reduceToNat, Nat.reduceAdd, Nat.reduceMul, Nat.reduceEqDiff, ↓reduceIte]
        refine NextV_of (j + 1) [] rfl (by simp (disch := (first | omega | (simp only [List.length_append, List.length_set, List.length_cons, List.length_nil, List.length_replicate, List.length_take, List.length_drop, List.length_map, List.length_range, true_and, and_true]; (try omega); done) | fail)) only [go_sem, Int.reduceEq, Int.reduceToNat, Nat.reduceAdd, Nat.reduceMul, Nat.reduceEqDiff, ↓reduceIte, true_and, and_true, and_self, List.drop_zero, List.take_length, Nat.le_refl, V.lit.injEq, Value.int.injEq, Value.bool.injEq]; try (first | omega | (simp; done) | (simp; omega))) (by dsimp only; rw [hst]; (simp (disch := (first | omega | (simp only [List.length_append, List.length_set, List.length_cons, List.length_nil, List.length_replicate, List.length_take, List.length_drop, List.length_map, List.length_range, true_and, and_true]; (try omega); done) | fail)) only [go_sem, Int.reduceEq, Int.reduceToNat, Nat.reduceAdd, Nat.reduceMul, Nat.reduceEqDiff, ↓reduceIte, true_and, and_true, and_self, List.drop_zero, List.take_length, Nat.le_refl, V.lit.injEq, Value.int.injEq, Value.bool.injEq]; try (first | omega | (simp; done) | (simp; omega)))) (by omega) (by omega)
    · obtain rfl : j = 28 := by omega
      simp (disch := (first | omega | (simp only [List.length_append, List.length_set, List.length_cons, List.length_nil, List.length_replicate, List.length_take, List.length_drop, List.length_map, List.length_range, true_and, and_true]; (try omega); done) | fail)) only [go_sem, Int.reduceEq, Int.reduceToNat, Nat.reduceAdd, Nat.reduceMul, Nat.reduceEqDiff, ↓reduceIte]
      exact endW [] hQ
end Go.Proofs.Ytdpekigpjihnkaa
