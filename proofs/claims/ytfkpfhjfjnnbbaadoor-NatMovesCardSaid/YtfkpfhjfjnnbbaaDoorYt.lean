import Derived.Test.YtfkpfhjfjnnbbaaDoorYr
/-! NatMoves. -/
namespace Go.Proofs.YtfkpfhjfjnnbbaaDoor
open Go.Eng Go.Vx
set_option linter.unusedSimpArgs false
set_option linter.unusedVariables false
set_option maxRecDepth 100000
theorem bl_shl {a : Nat} (h : a ≠ 0) (n : Nat) : bl (a * 2 ^ n) = bl a + n := by
  have h1 := bl_le h
  have h2 := bl_lt a
  have hp := bl_pos h
  have hk : 0 < 2 ^ n := Nat.pow_pos (by decide)
  refine bl_unique ?_ ?_ (by omega)
  · rw [show bl a + n - 1 = (bl a - 1) + n by omega, Nat.pow_add]
    exact Nat.mul_le_mul_right _ h1
  · rw [Nat.pow_add]
    exact Nat.mul_lt_mul_of_pos_right h2 hk
theorem dg_pow2 {i k : Nat} (h : i < 13 * k) : (dg (2 ^ i)).length ≤ k := dg_bl (bl_le_of (Nat.pow_lt_pow_right (by decide) h))
theorem shl_shr (a n : Nat) : a * 2 ^ n / 2 ^ n = a := Nat.mul_div_cancel _ (Nat.pow_pos (by decide))
theorem shl_bit (a n : Nat) : a * 2 ^ (n + 1) / 2 ^ n % 2 = 0 := by
  rw [Nat.pow_succ, Nat.mul_comm (2 ^ n) 2, ← Nat.mul_assoc, Nat.mul_div_cancel _ (Nat.pow_pos (by decide)), Nat.mul_mod_left]
set_option maxHeartbeats 4000000 in
theorem natMoves_fn {P0 : List Nat} {n : Int} (hP0 : ∀ d ∈ P0, d < 18446744073709551616) (lP : P0.length ≤ 9223372036854775807) (n0 : -9223372036854775808 ≤ n) (n1 : n ≤ 9223372036854775807) :
    Fn1 Tryd.prog 5 [.row 1 ((nl P0).map (ie .u64)), .lit (.int .i64 n)] [] (.lit (.bool true)) [] := by
  obtain ⟨fp, hP, hPl⟩ := few_of (k := 5) hP0 lP (by decide)
  generalize P0.take 5 = W1 at *
  obtain ⟨a, oa, va, la, da, ba⟩ := both_of hP hPl (by decide)
  have z0 := zero_fn (n := 0) (by rw [wg_zero]; decide)
  by_cases hneg : n < 0
  · have s := shlE_fn (v := a) (n := n) (.inl hneg)
    have t := shr_fn (v := a) (N := 0) (n := n) (by omega) (by decide) (by omega)
    rw [Nat.pow_zero, Nat.div_one] at t
    have i1 := is5_fn (n := a) (by omega) (by omega)
    refine fn1_of pl5 (by kernel_rfl) Tryd.call5 Tryd.func5 rfl (by kernel_rfl) rfl [.tmp 4] (by kernel_rfl) fun Q hQ => ?_
    repeat (first | (refine callV0 (awake5_fn) rfl rfl ?_) | (refine callV0 (fp) rfl rfl ?_) | (refine callV0 (oa) rfl rfl ?_) | (refine callV0 (va) rfl rfl ?_) | (refine callV0 (z0) rfl rfl ?_) | (refine callV0 (s) rfl rfl ?_) | (refine callV0 (t) rfl rfl ?_) | (refine callV0 (i1) rfl rfl ?_) | (simp (maxSteps := 1000000) (disch := (first | omega | (simp only [lnA, List.length_map, List.length_range, true_and, and_true]; (try omega); done) | fail)) only [go_sem, eq_self, decide_true, decide_false, List.append_eq, List.cons_append, List.nil_append, Int.reduceEq, Int.reduceToNat, Nat.reduceAdd, Nat.reduceMul, Nat.reduceEqDiff, ↓reduceIte]))
    exact endW [] hQ
  obtain ⟨N, rfl⟩ := Int.eq_ofNat_of_zero_le (show 0 ≤ n by omega)
  have hbig : 500 < N → a / 2 ^ N = 0 := fun h => by
    refine Nat.div_eq_of_lt (Nat.lt_of_lt_of_le (bl_lt a) (Nat.pow_le_pow_right (by decide) (by omega)))
  by_cases h8 : 8192 < N
  · have s := shlE_fn (v := a) (n := N) (.inr (by omega))
    have t := shr_fn (v := a) (N := N) (n := N) (by omega) (by omega) (by omega)
    rw [hbig (by omega)] at t
    refine fn1_of pl5 (by kernel_rfl) Tryd.call5 Tryd.func5 rfl (by kernel_rfl) rfl [.tmp 4] (by kernel_rfl) fun Q hQ => ?_
    repeat (first | (refine callV0 (awake5_fn) rfl rfl ?_) | (refine callV0 (fp) rfl rfl ?_) | (refine callV0 (oa) rfl rfl ?_) | (refine callV0 (va) rfl rfl ?_) | (refine callV0 (z0) rfl rfl ?_) | (refine callV0 (s) rfl rfl ?_) | (refine callV0 (t) rfl rfl ?_) | (simp (maxSteps := 1000000) (disch := (first | omega | (simp only [lnA, List.length_map, List.length_range, true_and, and_true]; (try omega); done) | fail)) only [go_sem, eq_self, decide_true, decide_false, List.append_eq, List.cons_append, List.nil_append, Int.reduceEq, Int.reduceToNat, Nat.reduceAdd, Nat.reduceMul, Nat.reduceEqDiff, ↓reduceIte]))
    exact endW [] hQ
  have s := shl_fn (v := a) (N := N) (by omega) (by omega)
  have t := shr_fn (v := a) (N := N) (n := N) (by omega) (by omega) (by omega)
  have bu : bl (a * 2 ^ N) ≤ 320 + N := by
    by_cases h : a = 0
    · rw [h, Nat.zero_mul, bl_zero]; omega
    · rw [bl_shl h]; omega
  have lu : (wg (a * 2 ^ N)).length ≤ 134 := wg_bl (by omega)
  have t2 := shr_fn (v := a * 2 ^ N) (N := N) (n := N) (by omega) (by omega) (by omega)
  rw [shl_shr] at t2
  have c := ncmp_fn (a := a) (b := a) (by omega) (by omega)
  rw [cmpI_eq] at c
  have z1 := zero_fn (n := a) (by omega)
  have b1 := bits_fn (n := a * 2 ^ N) (by omega)
  have b2 := bits_fn (n := a) (by omega)
  have hbit : ∃ k : Int, (N : Int) - 1 = k ∧ Fn1 Tryd.prog 30 [NV (a * 2 ^ N), .lit (.int .i64 k)] [] (.lit (.bool false)) [] := by
    refine ⟨_, rfl, ?_⟩
    rcases Nat.eq_zero_or_pos N with rfl | hp
    · exact nbitE_fn (by decide)
    · obtain ⟨M, rfl⟩ : ∃ M, N = M + 1 := ⟨N - 1, by omega⟩
      have := nbit_fn (v := a * 2 ^ (M + 1)) (I := M) (by omega) (by omega)
      rw [shl_bit, decide_eq_false (by decide)] at this
      rw [show ((M + 1 : Nat) : Int) - 1 = (M : Int) by omega]
      exact this
  obtain ⟨k, hk, bt⟩ := hbit
  have hbs : a ≠ 0 → bl (a * 2 ^ N) = bl a + N := fun h => bl_shl h N
  by_cases h5 : 500 < N
  · rw [hbig h5] at t
    by_cases ha : a = 0
    · rw [decide_eq_true ha] at z1
      clear hbs
      refine fn1_of pl5 (by kernel_rfl) Tryd.call5 Tryd.func5 rfl (by kernel_rfl) rfl [.tmp 4] (by kernel_rfl) fun Q hQ => ?_
      generalize a * 2 ^ N = u at *
      repeat (first | (refine callV0 (awake5_fn) rfl rfl ?_) | (refine callV0 (fp) rfl rfl ?_) | (refine callV0 (oa) rfl rfl ?_) | (refine callV0 (va) rfl rfl ?_) | (refine callV0 (z0) rfl rfl ?_) | (refine callV0 (s) rfl rfl ?_) | (refine callV0 (t) rfl rfl ?_) | (refine callV0 (t2) rfl rfl ?_) | (refine callV0 (c) rfl rfl ?_) | (refine callV0 (z1) rfl rfl ?_) | (refine callV0 (b1) rfl rfl ?_) | (refine callV0 (b2) rfl rfl ?_) | (refine callV0 (bt) rfl rfl ?_) | (simp (maxSteps := 1000000) (disch := (first | omega | (simp only [lnA, List.length_map, List.length_range, true_and, and_true]; (try omega); done) | fail)) only [go_sem, eq_self, decide_true, decide_false, List.append_eq, List.cons_append, List.nil_append, hk, Int.reduceEq, Int.reduceToNat, Nat.reduceAdd, Nat.reduceMul, Nat.reduceEqDiff, ↓reduceIte]))
      exact endW [] hQ
    · rw [decide_eq_false ha] at z1
      have hbs := hbs ha
      refine fn1_of pl5 (by kernel_rfl) Tryd.call5 Tryd.func5 rfl (by kernel_rfl) rfl [.tmp 4] (by kernel_rfl) fun Q hQ => ?_
      generalize a * 2 ^ N = u at *
      have hd : decide ((bl u : Int) = (bl a : Int) + (N : Int)) = true := decide_eq_true (by omega)
      repeat (first | (refine callV0 (awake5_fn) rfl rfl ?_) | (refine callV0 (fp) rfl rfl ?_) | (refine callV0 (oa) rfl rfl ?_) | (refine callV0 (va) rfl rfl ?_) | (refine callV0 (z0) rfl rfl ?_) | (refine callV0 (s) rfl rfl ?_) | (refine callV0 (t) rfl rfl ?_) | (refine callV0 (t2) rfl rfl ?_) | (refine callV0 (c) rfl rfl ?_) | (refine callV0 (z1) rfl rfl ?_) | (refine callV0 (b1) rfl rfl ?_) | (refine callV0 (b2) rfl rfl ?_) | (refine callV0 (bt) rfl rfl ?_) | (simp (maxSteps := 1000000) (disch := (first | omega | (simp only [lnA, List.length_map, List.length_range, true_and, and_true]; (try omega); done) | fail)) only [go_sem, eq_self, decide_true, decide_false, List.append_eq, List.cons_append, List.nil_append, hk, hd, Int.reduceEq, Int.reduceToNat, Nat.reduceAdd, Nat.reduceMul, Nat.reduceEqDiff, ↓reduceIte]))
      exact endW [] hQ
  · have q2 := small_fn (n := 2) (by decide)
    have dN : ∀ i, i ≤ N → (dg (2 ^ i)).length ≤ 40 := fun i hi => dg_pow2 (by omega)
    have p := lpow_fn (a := 2) (n := N) (by omega) (Nat.le_trans (dg_len (k := 1) (by decide)) (by decide)) (fun i hi => Nat.le_trans (dN i hi) (by decide))
    have dN' := dN N (Nat.le_refl N)
    have dv := ldiv_fn (a := a) (b := 2 ^ N) (Nat.pow_pos (by decide)) (by omega) (by omega)
    have m := lmul_fn (a := a) (b := 2 ^ N) (by omega) (by omega)
    have dm := dg_mul a (2 ^ N)
    have i1 := is5_fn (n := a * 2 ^ N) (by omega) (by omega)
    have i2 := is5_fn (n := a / 2 ^ N) (Nat.le_trans (wmono_len (Nat.div_le_self _ _)) (by omega)) (Nat.le_trans (dg_mono (Nat.div_le_self _ _)) (by omega))
    by_cases ha : a = 0
    · rw [decide_eq_true ha] at z1
      clear hbs hbig dN
      refine fn1_of pl5 (by kernel_rfl) Tryd.call5 Tryd.func5 rfl (by kernel_rfl) rfl [.tmp 4] (by kernel_rfl) fun Q hQ => ?_
      generalize a * 2 ^ N = u at *
      generalize a / 2 ^ N = w at *
      generalize 2 ^ N = two at *
      repeat (first | (refine callV0 (awake5_fn) rfl rfl ?_) | (refine callV0 (fp) rfl rfl ?_) | (refine callV0 (oa) rfl rfl ?_) | (refine callV0 (va) rfl rfl ?_) | (refine callV0 (z0) rfl rfl ?_) | (refine callV0 (s) rfl rfl ?_) | (refine callV0 (t) rfl rfl ?_) | (refine callV0 (t2) rfl rfl ?_) | (refine callV0 (c) rfl rfl ?_) | (refine callV0 (z1) rfl rfl ?_) | (refine callV0 (b1) rfl rfl ?_) | (refine callV0 (b2) rfl rfl ?_) | (refine callV0 (bt) rfl rfl ?_) | (refine callV0 (q2) rfl rfl ?_) | (refine callV0 (p) rfl rfl ?_) | (refine callV0 (dv) rfl rfl ?_) | (refine callV0 (m) rfl rfl ?_) | (refine callV0 (i1) rfl rfl ?_) | (refine callV0 (i2) rfl rfl ?_) | (simp (maxSteps := 1000000) (disch := (first | omega | (simp only [lnA, List.length_map, List.length_range, true_and, and_true]; (try omega); done) | fail)) only [go_sem, eq_self, decide_true, decide_false, List.append_eq, List.cons_append, List.nil_append, hk, Int.reduceEq, Int.reduceToNat, Nat.reduceAdd, Nat.reduceMul, Nat.reduceEqDiff, ↓reduceIte]))
      exact endW [] hQ
    · rw [decide_eq_false ha] at z1
      have hbs := hbs ha
      clear hbig dN
      refine fn1_of pl5 (by kernel_rfl) Tryd.call5 Tryd.func5 rfl (by kernel_rfl) rfl [.tmp 4] (by kernel_rfl) fun Q hQ => ?_
      generalize a * 2 ^ N = u at *
      have hd : decide ((bl u : Int) = (bl a : Int) + (N : Int)) = true := decide_eq_true (by omega)
      generalize a / 2 ^ N = w at *
      generalize 2 ^ N = two at *
      repeat (first | (refine callV0 (awake5_fn) rfl rfl ?_) | (refine callV0 (fp) rfl rfl ?_) | (refine callV0 (oa) rfl rfl ?_) | (refine callV0 (va) rfl rfl ?_) | (refine callV0 (z0) rfl rfl ?_) | (refine callV0 (s) rfl rfl ?_) | (refine callV0 (t) rfl rfl ?_) | (refine callV0 (t2) rfl rfl ?_) | (refine callV0 (c) rfl rfl ?_) | (refine callV0 (z1) rfl rfl ?_) | (refine callV0 (b1) rfl rfl ?_) | (refine callV0 (b2) rfl rfl ?_) | (refine callV0 (bt) rfl rfl ?_) | (refine callV0 (q2) rfl rfl ?_) | (refine callV0 (p) rfl rfl ?_) | (refine callV0 (dv) rfl rfl ?_) | (refine callV0 (m) rfl rfl ?_) | (refine callV0 (i1) rfl rfl ?_) | (refine callV0 (i2) rfl rfl ?_) | (simp (maxSteps := 1000000) (disch := (first | omega | (simp only [lnA, List.length_map, List.length_range, true_and, and_true]; (try omega); done) | fail)) only [go_sem, eq_self, decide_true, decide_false, List.append_eq, List.cons_append, List.nil_append, hk, hd, Int.reduceEq, Int.reduceToNat, Nat.reduceAdd, Nat.reduceMul, Nat.reduceEqDiff, ↓reduceIte]))
      exact endW [] hQ
end Go.Proofs.YtfkpfhjfjnnbbaaDoor
