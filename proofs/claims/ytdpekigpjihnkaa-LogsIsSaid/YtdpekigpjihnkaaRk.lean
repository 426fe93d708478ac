import Derived.Test.YtdpekigpjihnkaaRi
/-! LogsIs, LogsPowers, LogsSums. -/
namespace Go.Proofs.Ytdpekigpjihnkaa
open Go.Eng Go.Vx
set_option linter.unusedSimpArgs false
set_option linter.unusedVariables false
set_option maxRecDepth 100000
theorem rxlog_fn {N : Nat} {n : Int} (h : max 0 (min n 1048576) = (N : Int)) : Fn1 Try.prog 28 [.lit (.int .i64 n)] [] (.lit (.int .i64 ((N * lgN (max 1 N) : Nat) : Int))) [] := by
  refine fn1_of pl28 (by kernel_rfl) Try.call28 Try.func28 rfl (by kernel_rfl) rfl [.tmp 2] (by kernel_rfl) fun Q hQ => ?_
  have hN : N ≤ 1048576 := by omega
  have hl := lgN_le (n := max 1 N) (by omega) (by omega)
  have hm : N * lgN (max 1 N) ≤ 1048576 * (41 * 268435456) := Nat.mul_le_mul hN (by omega)
  have hc : (N : Int) * ((lgN (max 1 N) : Nat) : Int) = ((N * lgN (max 1 N) : Nat) : Int) := by simp
  simp (disch := (first | omega | (simp only [List.length_append, List.length_set, List.length_cons, List.length_nil, List.length_replicate, List.length_take, List.length_drop, List.length_map, List.length_range, true_and, and_true]; (try omega); done) | fail)) only [go_sem, Int.reduceEq, Int.reduceToNat, Nat.reduceAdd, Nat.reduceMul, Nat.reduceEqDiff, ↓reduceIte]
  refine callV0 (within_fn (by decide)) rfl rfl ?_
  rw [h]
  by_cases h0 : N = 0
  · subst h0
    rw [Nat.zero_mul] at hQ
    simp (disch := (first | omega | (simp only [List.length_append, List.length_set, List.length_cons, List.length_nil, List.length_replicate, List.length_take, List.length_drop, List.length_map, List.length_range, true_and, and_true]; (try omega); done) | fail)) only [go_sem, Int.reduceEq, Int.reduceToNat, Nat.reduceAdd, Nat.reduceMul, Nat.reduceEqDiff, ↓reduceIte]
    exact endW [] hQ
  · simp (disch := (first | omega | (simp only [List.length_append, List.length_set, List.length_cons, List.length_nil, List.length_replicate, List.length_take, List.length_drop, List.length_map, List.length_range, true_and, and_true]; (try omega); done) | fail)) only [go_sem, Int.reduceEq, Int.reduceToNat, Nat.reduceAdd, Nat.reduceMul, Nat.reduceEqDiff, ↓reduceIte]
    refine callV0 (rlog2_fn (N := max 1 N) (n := (N : Int)) (by omega)) rfl rfl ?_
    simp (disch := (first | omega | (simp only [List.length_append, List.length_set, List.length_cons, List.length_nil, List.length_replicate, List.length_take, List.length_drop, List.length_map, List.length_range, true_and, and_true]; (try omega); done) | fail)) only [go_sem, hc, Int.reduceEq, Int.reduceToNat, Nat.reduceAdd, Nat.reduceMul, Nat.reduceEqDiff, ↓reduceIte]
    exact endW [] hQ
theorem lg1 : lgN 1 = 0 := by decide +kernel
theorem lg2 : lgN 2 = 268435456 := by decide +kernel
theorem lg3 : lgN 3 = 425460131 := by decide +kernel
theorem awake08_fn : Fn1 Try.prog 24 [] [] (.lit (.bool true)) [] := by
  refine fn1_of pl24 (by kernel_rfl) Try.call24 Try.func24 rfl (by kernel_rfl) rfl [.tmp 0] (by kernel_rfl) fun Q hQ => ?_
  have h1 := log2_fn (N := 1) (n := 1) (by decide)
  have h2 := log2_fn (N := 2) (n := 2) (by decide)
  have h3 := log2_fn (N := 3) (n := 3) (by decide)
  rw [lg1] at h1
  rw [lg2] at h2
  rw [lg3] at h3
  simp (disch := (first | omega | (simp only [List.length_append, List.length_set, List.length_cons, List.length_nil, List.length_replicate, List.length_take, List.length_drop, List.length_map, List.length_range, true_and, and_true]; (try omega); done) | fail)) only [go_sem, Int.reduceEq, Int.reduceToNat, Nat.reduceAdd, Nat.reduceMul, Nat.reduceEqDiff, ↓reduceIte]
  refine callV0 (h1) rfl rfl ?_
  simp (disch := (first | omega | (simp only [List.length_append, List.length_set, List.length_cons, List.length_nil, List.length_replicate, List.length_take, List.length_drop, List.length_map, List.length_range, true_and, and_true]; (try omega); done) | fail)) only [go_sem, Int.reduceEq, Int.reduceToNat, Nat.reduceAdd, Nat.reduceMul, Nat.reduceEqDiff, ↓reduceIte]
  refine callV0 (h2) rfl rfl ?_
  simp (disch := (first | omega | (simp only [List.length_append, List.length_set, List.length_cons, List.length_nil, List.length_replicate, List.length_take, List.length_drop, List.length_map, List.length_range, true_and, and_true]; (try omega); done) | fail)) only [go_sem, Int.reduceEq, Int.reduceToNat, Nat.reduceAdd, Nat.reduceMul, Nat.reduceEqDiff, ↓reduceIte]
  refine callV0 (h3) rfl rfl ?_
  simp (disch := (first | omega | (simp only [List.length_append, List.length_set, List.length_cons, List.length_nil, List.length_replicate, List.length_take, List.length_drop, List.length_map, List.length_range, true_and, and_true]; (try omega); done) | fail)) only [go_sem, Int.reduceEq, Int.reduceToNat, Nat.reduceAdd, Nat.reduceMul, Nat.reduceEqDiff, ↓reduceIte]
  exact endW [] hQ
theorem logsIs_fn {n : Int} : Fn1 Try.prog 7 [.lit (.int .i64 n)] [] (.lit (.bool true)) [] := by
  refine fn1_of pl7 (by kernel_rfl) Try.call7 Try.func7 rfl (by kernel_rfl) rfl [.tmp 2] (by kernel_rfl) fun Q hQ => ?_
  obtain ⟨N, hN⟩ : ∃ N : Nat, max 1 (min n 1099511627776) = N := ⟨(max 1 (min n 1099511627776)).toNat, by omega⟩
  obtain ⟨M, hM⟩ : ∃ M : Nat, max 0 (min n 1048576) = M := ⟨(max 0 (min n 1048576)).toNat, by omega⟩
  simp (disch := (first | omega | (simp only [List.length_append, List.length_set, List.length_cons, List.length_nil, List.length_replicate, List.length_take, List.length_drop, List.length_map, List.length_range, true_and, and_true]; (try omega); done) | fail)) only [go_sem, Int.reduceEq, Int.reduceToNat, Nat.reduceAdd, Nat.reduceMul, Nat.reduceEqDiff, ↓reduceIte]
  refine callV0 (awake08_fn) rfl rfl ?_
  simp (disch := (first | omega | (simp only [List.length_append, List.length_set, List.length_cons, List.length_nil, List.length_replicate, List.length_take, List.length_drop, List.length_map, List.length_range, true_and, and_true]; (try omega); done) | fail)) only [go_sem, Int.reduceEq, Int.reduceToNat, Nat.reduceAdd, Nat.reduceMul, Nat.reduceEqDiff, ↓reduceIte]
  refine callV0 (log2_fn hN) rfl rfl ?_
  simp (disch := (first | omega | (simp only [List.length_append, List.length_set, List.length_cons, List.length_nil, List.length_replicate, List.length_take, List.length_drop, List.length_map, List.length_range, true_and, and_true]; (try omega); done) | fail)) only [go_sem, Int.reduceEq, Int.reduceToNat, Nat.reduceAdd, Nat.reduceMul, Nat.reduceEqDiff, ↓reduceIte]
  refine callV0 (rlog2_fn hN) rfl rfl ?_
  simp (disch := (first | omega | (simp only [List.length_append, List.length_set, List.length_cons, List.length_nil, List.length_replicate, List.length_take, List.length_drop, List.length_map, List.length_range, true_and, and_true]; (try omega); done) | fail)) only [go_sem, Int.reduceEq, Int.reduceToNat, Nat.reduceAdd, Nat.reduceMul, Nat.reduceEqDiff, ↓reduceIte]
  refine callV0 (xlog_fn hM) rfl rfl ?_
  simp (disch := (first | omega | (simp only [List.length_append, List.length_set, List.length_cons, List.length_nil, List.length_replicate, List.length_take, List.length_drop, List.length_map, List.length_range, true_and, and_true]; (try omega); done) | fail)) only [go_sem, Int.reduceEq, Int.reduceToNat, Nat.reduceAdd, Nat.reduceMul, Nat.reduceEqDiff, ↓reduceIte]
  refine callV0 (rxlog_fn hM) rfl rfl ?_
  simp (disch := (first | omega | (simp only [List.length_append, List.length_set, List.length_cons, List.length_nil, List.length_replicate, List.length_take, List.length_drop, List.length_map, List.length_range, true_and, and_true]; (try omega); done) | fail)) only [go_sem, Int.reduceEq, Int.reduceToNat, Nat.reduceAdd, Nat.reduceMul, Nat.reduceEqDiff, ↓reduceIte]
  exact endW [] hQ
theorem logsPowers_fn {n k : Int} : Fn1 Try.prog 8 [.lit (.int .i64 n), .lit (.int .i64 k)] [] (.lit (.bool true)) [] := by
  refine fn1_of pl8 (by kernel_rfl) Try.call8 Try.func8 rfl (by kernel_rfl) rfl [.tmp 4] (by kernel_rfl) fun Q hQ => ?_
  obtain ⟨N, hN⟩ : ∃ N : Nat, max 1 (min n 1048576) = N := ⟨(max 1 (min n 1048576)).toNat, by omega⟩
  obtain ⟨K, hK⟩ : ∃ K : Nat, max 0 (min k 20) = K := ⟨(max 0 (min k 20)).toNat, by omega⟩
  have hN2 : 1 ≤ N ∧ N ≤ 1048576 := by omega
  have hK2 : K ≤ 20 := by omega
  have hp : 2 ^ K ≤ 2 ^ 20 := Nat.pow_le_pow_right (by decide) hK2
  have hpm : N * 2 ^ K ≤ 1048576 * 2 ^ 20 := Nat.mul_le_mul hN2.2 hp
  rw [show (1048576 : Nat) * 2 ^ 20 = 1099511627776 by decide] at hpm
  have hpos : 0 < N * 2 ^ K := Nat.mul_pos (by omega) (Nat.two_pow_pos K)
  have hsh := lgN_shift (n := N) (k := K) (by omega) hpm
  have hwr : IntKind.i64.wrap ((N : Int) * 2 ^ K) = ((N * 2 ^ K : Nat) : Int) := by
    have e : (N : Int) * 2 ^ K = ((N * 2 ^ K : Nat) : Int) := by simp
    rw [e]
    generalize N * 2 ^ K = y at *
    have : (y : Int) ≤ 1099511627776 := by omega
    simp (disch := (first | omega | (simp only [List.length_append, List.length_set, List.length_cons, List.length_nil, List.length_replicate, List.length_take, List.length_drop, List.length_map, List.length_range, true_and, and_true]; (try omega); done) | fail)) only [go_sem, Int.reduceEq, Int.reduceToNat, Nat.reduceAdd, Nat.reduceMul, Nat.reduceEqDiff, ↓reduceIte]
  have hl := lgN_le (n := N) (by omega) (by omega)
  have hl2 := lgN_le (n := N * 2 ^ K) hpos hpm
  have hm : N * lgN N ≤ 1048576 * (41 * 268435456) := Nat.mul_le_mul hN2.2 (by omega)
  have hc : (N : Int) * ((lgN N : Nat) : Int) = ((N * lgN N : Nat) : Int) := by simp
  have hmx : max 1 N = N := by omega
  have hx := xlog_fn (N := N) (n := (N : Int)) (by omega)
  rw [hmx] at hx
  simp (disch := (first | omega | (simp only [List.length_append, List.length_set, List.length_cons, List.length_nil, List.length_replicate, List.length_take, List.length_drop, List.length_map, List.length_range, true_and, and_true]; (try omega); done) | fail)) only [go_sem, Int.reduceEq, Int.reduceToNat, Nat.reduceAdd, Nat.reduceMul, Nat.reduceEqDiff, ↓reduceIte]
  refine callV0 (awake08_fn) rfl rfl ?_
  simp (disch := (first | omega | (simp only [List.length_append, List.length_set, List.length_cons, List.length_nil, List.length_replicate, List.length_take, List.length_drop, List.length_map, List.length_range, true_and, and_true]; (try omega); done) | fail)) only [go_sem, hN, hK, hwr, Int.reduceEq, Int.reduceToNat, Nat.reduceAdd, Nat.reduceMul, Nat.reduceEqDiff, ↓reduceIte]
  refine callV0 (log2_fn (N := N * 2 ^ K) (n := ((N * 2 ^ K : Nat) : Int)) (by omega)) rfl rfl ?_
  rw [hsh]
  rw [hsh] at hl2
  simp (disch := (first | omega | (simp only [List.length_append, List.length_set, List.length_cons, List.length_nil, List.length_replicate, List.length_take, List.length_drop, List.length_map, List.length_range, true_and, and_true]; (try omega); done) | fail)) only [go_sem, Int.reduceEq, Int.reduceToNat, Nat.reduceAdd, Nat.reduceMul, Nat.reduceEqDiff, ↓reduceIte]
  refine callV0 (log2_fn (N := N) (n := (N : Int)) (by omega)) rfl rfl ?_
  generalize hL : lgN N = L at *
  have e1 : ((L + K * 268435456 : Nat) : Int) = (L : Int) + (K : Int) * 268435456 := by omega
  simp (disch := (first | omega | (simp only [List.length_append, List.length_set, List.length_cons, List.length_nil, List.length_replicate, List.length_take, List.length_drop, List.length_map, List.length_range, true_and, and_true]; (try omega); done) | fail)) only [go_sem, e1, Int.reduceEq, Int.reduceToNat, Nat.reduceAdd, Nat.reduceMul, Nat.reduceEqDiff, ↓reduceIte]
  refine callV0 (hx) rfl rfl ?_
  simp (disch := (first | omega | (simp only [List.length_append, List.length_set, List.length_cons, List.length_nil, List.length_replicate, List.length_take, List.length_drop, List.length_map, List.length_range, true_and, and_true]; (try omega); done) | fail)) only [go_sem, Int.reduceEq, Int.reduceToNat, Nat.reduceAdd, Nat.reduceMul, Nat.reduceEqDiff, ↓reduceIte]
  refine callV0 (hL ▸ log2_fn (N := N) (n := (N : Int)) (by omega)) rfl rfl ?_
  simp (disch := (first | omega | (simp only [List.length_append, List.length_set, List.length_cons, List.length_nil, List.length_replicate, List.length_take, List.length_drop, List.length_map, List.length_range, true_and, and_true]; (try omega); done) | fail)) only [go_sem, hc, Int.reduceEq, Int.reduceToNat, Nat.reduceAdd, Nat.reduceMul, Nat.reduceEqDiff, ↓reduceIte]
  exact endW [] hQ
/-- The number times its logarithm. -/
def xl (N : Nat) : Int := ((N * lgN (max 1 N) : Nat) : Int)
theorem xl_zero : xl 0 = 0 := by unfold xl; rw [Nat.zero_mul]; rfl
theorem xl_one : xl 1 - xl (1 - 1) = 0 := by
  have h1 : max 1 1 = 1 := rfl
  rw [Nat.sub_self, xl_zero]
  unfold xl
  rw [h1, lg1, Nat.mul_zero]
  decide
theorem xl_le {N : Nat} (h : N ≤ 1048576) : 0 ≤ xl N ∧ xl N ≤ 11542724608000000 := by
  have hl := lgN_le (n := max 1 N) (by omega) (by omega)
  have hm : N * lgN (max 1 N) ≤ 1048576 * (41 * 268435456) := Nat.mul_le_mul h (by omega)
  unfold xl
  omega
theorem diffx_fn {N : Nat} {n : Int} (h : max 1 (min n 1048576) = (N : Int)) : Fn1 Try.prog 29 [.lit (.int .i64 n)] [] (.lit (.int .i64 (xl N - xl (N - 1)))) [] := diff_fn h
theorem xlogx_fn {N : Nat} {n : Int} (h : max 0 (min n 1048576) = (N : Int)) : Fn1 Try.prog 27 [.lit (.int .i64 n)] [] (.lit (.int .i64 (xl N))) [] := xlog_fn h
theorem log2n_fn {N : Nat} (h1 : 1 ≤ N) (h2 : N ≤ 1099511627776) : Fn1 Try.prog 25 [.lit (.int .i64 (N : Int))] [] (.lit (.int .i64 ((lgN N : Nat) : Int))) [] := log2_fn (by omega)
theorem xlogn_fn {N : Nat} (h2 : N ≤ 1048576) : Fn1 Try.prog 27 [.lit (.int .i64 (N : Int))] [] (.lit (.int .i64 (xl N))) [] := xlogx_fn (by omega)
theorem diffn_fn {N : Nat} (h1 : 1 ≤ N) (h2 : N ≤ 1048576) : Fn1 Try.prog 29 [.lit (.int .i64 (N : Int))] [] (.lit (.int .i64 (xl N - xl (N - 1)))) [] := diffx_fn (by omega)
theorem logsSums_fn {n m : Int} : Fn1 Try.prog 9 [.lit (.int .i64 n), .lit (.int .i64 m)] [] (.lit (.bool true)) [] := by
  refine fn1_of pl9 (by kernel_rfl) Try.call9 Try.func9 rfl (by kernel_rfl) rfl [.tmp 4] (by kernel_rfl) fun Q hQ => ?_
  obtain ⟨N, hN⟩ : ∃ N : Nat, max 0 (min n 300) = N := ⟨(max 0 (min n 300)).toNat, by omega⟩
  obtain ⟨M, hM⟩ : ∃ M : Nat, max 1 (min m 1048576) = M := ⟨(max 1 (min m 1048576)).toNat, by omega⟩
  have hN2 : N ≤ 300 := by omega
  have hM2 : 1 ≤ M ∧ M ≤ 1048576 := by omega
  simp (disch := (first | omega | (simp only [List.length_append, List.length_set, List.length_cons, List.length_nil, List.length_replicate, List.length_take, List.length_drop, List.length_map, List.length_range, true_and, and_true]; (try omega); done) | fail)) only [go_sem, Int.reduceEq, Int.reduceToNat, Nat.reduceAdd, Nat.reduceMul, Nat.reduceEqDiff, ↓reduceIte]
  refine callV0 (awake08_fn) rfl rfl ?_
  simp (disch := (first | omega | (simp only [List.length_append, List.length_set, List.length_cons, List.length_nil, List.length_replicate, List.length_take, List.length_drop, List.length_map, List.length_range, true_and, and_true]; (try omega); done) | fail)) only [go_sem, hN, hM, Int.reduceEq, Int.reduceToNat, Nat.reduceAdd, Nat.reduceMul, Nat.reduceEqDiff, ↓reduceIte]
  refine LoopV_of (X := Nat) (st := fun i => ([(0, .lit (.int .i64 (N : Int))), (1, .lit (.int .i64 (M : Int))), (5, .lit (.int .i64 (xl i))), (6, .lit (.int .i64 ((i + 1 : Nat) : Int)))], []))
    (inv := fun i => i ≤ N) (m := fun i => N - i) 0 [] rfl (by simp (disch := (first | omega | (simp only [List.length_append, List.length_set, List.length_cons, List.length_nil, List.length_replicate, List.length_take, List.length_drop, List.length_map, List.length_range, true_and, and_true]; (try omega); done) | fail)) only [go_sem, Int.reduceEq, Int.reduceToNat, Nat.reduceAdd, Nat.reduceMul, Nat.reduceEqDiff, ↓reduceIte, true_and, and_true, and_self, List.drop_zero, List.take_length, Nat.le_refl, V.lit.injEq, Value.int.injEq, Value.bool.injEq]; try (first | omega | (simp; done) | (simp; omega))) (by rw [xl_zero]; (simp (disch := (first | omega | (simp only [List.length_append, List.length_set, List.length_cons, List.length_nil, List.length_replicate, List.length_take, List.length_drop, List.length_map, List.length_range, true_and, and_true]; (try omega); done) | fail)) only [go_sem, Int.reduceEq, Int.reduceToNat, Nat.reduceAdd, Nat.reduceMul, Nat.reduceEqDiff, ↓reduceIte, true_and, and_true, and_self, List.drop_zero, List.take_length, Nat.le_refl, V.lit.injEq, Value.int.injEq, Value.bool.injEq]; try (first | omega | (simp; done) | (simp; omega)))) (by omega) ?_
  intro i hi
  have b1 := xl_le (N := i) (by omega)
  by_cases h : i < N
  · have b2 := xl_le (N := i + 1) (by omega)
    have hs := diffx_fn (N := i + 1) (n := ((i + 1 : Nat) : Int)) (by omega)
    rw [Nat.add_sub_cancel] at hs
    have e : xl i + (xl (i + 1) - xl i) = xl (i + 1) := by omega
    simp (disch := (first | omega | (simp only [List.length_append, List.length_set, List.length_cons, List.length_nil, List.length_replicate, List.length_take, List.length_drop, List.length_map, List.length_range, true_and, and_true]; (try omega); done) | fail)) only [go_sem, Int.reduceEq, Int.reduceToNat, Nat.reduceAdd, Nat.reduceMul, Nat.reduceEqDiff, ↓reduceIte]
    refine callV0 (hs) rfl rfl ?_
    simp (disch := (first | omega | (simp only [List.length_append, List.length_set, List.length_cons, List.length_nil, List.length_replicate, List.length_take, List.length_drop, List.length_map, List.length_range, true_and, and_true]; (try omega); done) | fail)) only [go_sem, e, Int.reduceEq, Int.reduceToNat, Nat.reduceAdd, Nat.reduceMul, Nat.reduceEqDiff, ↓reduceIte]
    refine nextW (i + 1) [] (by omega) (by omega)
  · obtain rfl : i = N := by omega
    obtain ⟨T, hT⟩ : ∃ T : Nat, max i 1 = T := ⟨_, rfl⟩
    have hT1 : max (i : Int) 1 = (T : Int) := by omega
    have hT2 : 1 ≤ T ∧ T ≤ 300 := by omega
    have hmt : M * T ≤ 1048576 * 300 := Nat.mul_le_mul hM2.2 hT2.2
    have hpos : 0 < M * T := Nat.mul_pos (by omega) (by omega)
    have hc : (M : Int) * (T : Int) = ((M * T : Nat) : Int) := by simp
    have hmul := lgN_mul (m := M) (n := T) (by omega) (by omega) (by omega) (by omega) (by omega)
    have hmono := lgN_mono (m := M) (by omega) hM2.2
    have l1 := lgN_le (n := M) (by omega) (by omega)
    have l2 := lgN_le (n := T) (by omega) (by omega)
    have l3 := lgN_le (n := M * T) hpos (by omega)
    have l4 := lgN_le (n := M + 1) (by omega) (by omega)
    have b2 := xl_le (N := M) (by omega)
    have b3 := xl_le (N := M - 1) (by omega)
    have hM1 : (M : Int) - 1 = ((M - 1 : Nat) : Int) := by omega
    have hM3 : (M : Int) + 1 = ((M + 1 : Nat) : Int) := by omega
    have hd1 : Fn1 Try.prog 29 [.lit (.int .i64 1)] [] (.lit (.int .i64 0)) [] := by
      have h := diffx_fn (N := 1) (n := 1) (by decide)
      rw [xl_one] at h
      exact h
    have hM4 : M + 1 ≤ 1048577 := Nat.add_le_add_right hM2.2 1
    have s1 := log2n_fn (N := M * T) hpos (Nat.le_trans hmt (by decide))
    have s2 := log2n_fn (N := M) hM2.1 (Nat.le_trans hM2.2 (by decide))
    have s3 := log2n_fn (N := T) hT2.1 (Nat.le_trans hT2.2 (by decide))
    have s4 := log2n_fn (N := M + 1) (Nat.le_add_left 1 M) (Nat.le_trans hM4 (by decide))
    have s5 := xlogn_fn (N := i) (Nat.le_trans hN2 (by decide))
    have s6 := xlogn_fn (N := M) hM2.2
    have s7 := xlogn_fn (N := M - 1) (Nat.le_trans (Nat.sub_le M 1) hM2.2)
    have s8 := diffn_fn (N := M) hM2.1 hM2.2
    generalize lgN (M * T) = A at *
    generalize lgN (M + 1) = B at *
    generalize lgN M = C at *
    generalize lgN T = D at *
    simp (disch := (first | omega | (simp only [List.length_append, List.length_set, List.length_cons, List.length_nil, List.length_replicate, List.length_take, List.length_drop, List.length_map, List.length_range, true_and, and_true]; (try omega); done) | fail)) only [go_sem, hT1, hc, Int.reduceEq, Int.reduceToNat, Nat.reduceAdd, Nat.reduceMul, Nat.reduceEqDiff, ↓reduceIte]
    refine callV0 (s1) rfl rfl ?_
    simp (disch := (first | omega | (simp only [List.length_append, List.length_set, List.length_cons, List.length_nil, List.length_replicate, List.length_take, List.length_drop, List.length_map, List.length_range, true_and, and_true]; (try omega); done) | fail)) only [go_sem, Int.reduceEq, Int.reduceToNat, Nat.reduceAdd, Nat.reduceMul, Nat.reduceEqDiff, ↓reduceIte]
    refine callV0 (s2) rfl rfl ?_
    simp (disch := (first | omega | (simp only [List.length_append, List.length_set, List.length_cons, List.length_nil, List.length_replicate, List.length_take, List.length_drop, List.length_map, List.length_range, true_and, and_true]; (try omega); done) | fail)) only [go_sem, hT1, Int.reduceEq, Int.reduceToNat, Nat.reduceAdd, Nat.reduceMul, Nat.reduceEqDiff, ↓reduceIte]
    refine callV0 (s3) rfl rfl ?_
    simp (disch := (first | omega | (simp only [List.length_append, List.length_set, List.length_cons, List.length_nil, List.length_replicate, List.length_take, List.length_drop, List.length_map, List.length_range, true_and, and_true]; (try omega); done) | fail)) only [go_sem, Int.reduceEq, Int.reduceToNat, Nat.reduceAdd, Nat.reduceMul, Nat.reduceEqDiff, ↓reduceIte]
    refine callV0 (s5) rfl rfl ?_
    simp (disch := (first | omega | (simp only [List.length_append, List.length_set, List.length_cons, List.length_nil, List.length_replicate, List.length_take, List.length_drop, List.length_map, List.length_range, true_and, and_true]; (try omega); done) | fail)) only [go_sem, hM3, Int.reduceEq, Int.reduceToNat, Nat.reduceAdd, Nat.reduceMul, Nat.reduceEqDiff, ↓reduceIte]
    refine callV0 (s4) rfl rfl ?_
    simp (disch := (first | omega | (simp only [List.length_append, List.length_set, List.length_cons, List.length_nil, List.length_replicate, List.length_take, List.length_drop, List.length_map, List.length_range, true_and, and_true]; (try omega); done) | fail)) only [go_sem, Int.reduceEq, Int.reduceToNat, Nat.reduceAdd, Nat.reduceMul, Nat.reduceEqDiff, ↓reduceIte]
    refine callV0 (s2) rfl rfl ?_
    simp (disch := (first | omega | (simp only [List.length_append, List.length_set, List.length_cons, List.length_nil, List.length_replicate, List.length_take, List.length_drop, List.length_map, List.length_range, true_and, and_true]; (try omega); done) | fail)) only [go_sem, Int.reduceEq, Int.reduceToNat, Nat.reduceAdd, Nat.reduceMul, Nat.reduceEqDiff, ↓reduceIte]
    refine callV0 (s8) rfl rfl ?_
    simp (disch := (first | omega | (simp only [List.length_append, List.length_set, List.length_cons, List.length_nil, List.length_replicate, List.length_take, List.length_drop, List.length_map, List.length_range, true_and, and_true]; (try omega); done) | fail)) only [go_sem, Int.reduceEq, Int.reduceToNat, Nat.reduceAdd, Nat.reduceMul, Nat.reduceEqDiff, ↓reduceIte]
    refine callV0 (s6) rfl rfl ?_
    simp (disch := (first | omega | (simp only [List.length_append, List.length_set, List.length_cons, List.length_nil, List.length_replicate, List.length_take, List.length_drop, List.length_map, List.length_range, true_and, and_true]; (try omega); done) | fail)) only [go_sem, hM1, Int.reduceEq, Int.reduceToNat, Nat.reduceAdd, Nat.reduceMul, Nat.reduceEqDiff, ↓reduceIte]
    refine callV0 (s7) rfl rfl ?_
    simp (disch := (first | omega | (simp only [List.length_append, List.length_set, List.length_cons, List.length_nil, List.length_replicate, List.length_take, List.length_drop, List.length_map, List.length_range, true_and, and_true]; (try omega); done) | fail)) only [go_sem, Int.reduceEq, Int.reduceToNat, Nat.reduceAdd, Nat.reduceMul, Nat.reduceEqDiff, ↓reduceIte]
    refine callV0 (hd1) rfl rfl ?_
    simp (disch := (first | omega | (simp only [List.length_append, List.length_set, List.length_cons, List.length_nil, List.length_replicate, List.length_take, List.length_drop, List.length_map, List.length_range, true_and, and_true]; (try omega); done) | fail)) only [go_sem, Int.reduceEq, Int.reduceToNat, Nat.reduceAdd, Nat.reduceMul, Nat.reduceEqDiff, ↓reduceIte]
    exact endW [] hQ
end Go.Proofs.Ytdpekigpjihnkaa
