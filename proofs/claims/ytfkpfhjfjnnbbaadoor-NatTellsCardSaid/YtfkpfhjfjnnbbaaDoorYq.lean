import Derived.Test.YtfkpfhjfjnnbbaaDoorYo
import Derived.Test.YtfkpfhjfjnnbbaaDoorD3
/-! NatPowers. -/
namespace Go.Proofs.YtfkpfhjfjnnbbaaDoor
open Go.Eng Go.Vx
set_option linter.unusedSimpArgs false
set_option linter.unusedVariables false
set_option maxRecDepth 100000
theorem npowE_fn {a : Nat} {n : Int} (hn : n < 0) (ha : (wg a).length ≤ 4000000) : Fn1 Tryd.prog 17 [NV a, .lit (.int .i64 n)] [] (.tup [NV 0, .lit (.int .i64 2)]) [] := by
  rw [NV_zero]
  refine fn1N_of pl17 (by kernel_rfl) Tryd.call17 Tryd.func17 rfl (by kernel_rfl) rfl [.cell 4 26, .tmp 5] (by kernel_rfl) fun Q hQ => ?_
  simp (maxSteps := 1000000) (disch := (first | omega | (simp only [lnA, List.length_map, List.length_range, true_and, and_true]; (try omega); done) | fail)) only [go_sem, Int.reduceEq, Int.reduceToNat, Nat.reduceAdd, Nat.reduceMul, Nat.reduceEqDiff, ↓reduceIte]
  exact endW [] hQ
theorem npowS_fn {a n : Nat} (hb : 1 < bl a) (ha : bl a ≤ 8192) (hn : n < 9223372036854775808) (h : 8192 / bl a < n) : Fn1 Tryd.prog 17 [NV a, .lit (.int .i64 (n : Int))] [] (.tup [NV 0, .lit (.int .i64 3)]) [] := by
  have wa : (wg a).length ≤ 128 := wg_bl (by omega)
  rw [NV_zero]
  refine fn1N_of pl17 (by kernel_rfl) Tryd.call17 Tryd.func17 rfl (by kernel_rfl) rfl [.cell 4 26, .tmp 5] (by kernel_rfl) fun Q hQ => ?_
  have hdd : (8192 : Int) / (bl a : Int) = ((8192 / bl a : Nat) : Int) := by simp
  generalize 8192 / bl a = g at *
  simp (maxSteps := 1000000) (disch := (first | omega | (simp only [lnA, List.length_map, List.length_range, true_and, and_true]; (try omega); done) | fail)) only [go_sem, Int.reduceEq, Int.reduceToNat, Nat.reduceAdd, Nat.reduceMul, Nat.reduceEqDiff, ↓reduceIte]
  refine callV0 (bits_fn (n := a) (by omega)) rfl rfl ?_
  simp (maxSteps := 1000000) (disch := (first | omega | (simp only [lnA, List.length_map, List.length_range, true_and, and_true]; (try omega); done) | fail)) only [go_sem, Int.reduceEq, Int.reduceToNat, Nat.reduceAdd, Nat.reduceMul, Nat.reduceEqDiff, ↓reduceIte]
  refine callV0 (bits_fn (n := a) (by omega)) rfl rfl ?_
  simp (maxSteps := 1000000) (disch := (first | omega | (simp only [lnA, List.length_map, List.length_range, true_and, and_true]; (try omega); done) | fail)) only [go_sem, hdd, Int.reduceEq, Int.reduceToNat, Nat.reduceAdd, Nat.reduceMul, Nat.reduceEqDiff, ↓reduceIte]
  exact endW [] hQ
theorem dg_bl {n k : Nat} (h : bl n ≤ 13 * k) : (dg n).length ≤ k := by
  refine dg_len (Nat.lt_of_lt_of_le (bl_lt n) (Nat.le_trans (Nat.pow_le_pow_right (by decide) h) ?_))
  rw [Nat.pow_mul]
  exact Nat.pow_le_pow_left (by decide) k
theorem pow_min {a : Nat} (h : bl a ≤ 1) (n : Nat) : a ^ n = a ^ min n 1 := by
  have h2 := bl_lt a
  have h3 : 2 ^ bl a ≤ 2 ^ 1 := Nat.pow_le_pow_right (by decide) h
  have h4 : a = 0 ∨ a = 1 := by omega
  rcases h4 with rfl | rfl
  · rcases Nat.eq_zero_or_pos n with rfl | hp
    · rfl
    · rw [Nat.zero_pow hp, Nat.min_eq_right (by omega)]
  · rw [Nat.one_pow, Nat.one_pow]
theorem pow_bl7 {a n K i : Nat} (h : n * bl a ≤ K) (hi : i ≤ n) : bl (a ^ i) ≤ K + 1 := by
  refine Nat.le_trans (pow_bl_le a i) ?_
  have h6 := Nat.mul_le_mul_left (bl a) hi
  rw [Nat.mul_comm (bl a) n] at h6
  omega
set_option maxHeartbeats 4000000 in
theorem natPowers_fn {P0 : List Nat} {n : Int} (hP0 : ∀ d ∈ P0, d < 18446744073709551616) (lP : P0.length ≤ 9223372036854775807) (n0 : -9223372036854775808 ≤ n) (n1 : n ≤ 9223372036854775807) :
    Fn1 Tryd.prog 3 [.row 1 ((nl P0).map (ie .u64)), .lit (.int .i64 n)] [] (.lit (.bool true)) [] := by
  obtain ⟨fp, hP, hPl⟩ := few_of (k := 3) hP0 lP (by decide)
  generalize P0.take 3 = W1 at *
  obtain ⟨a, oa, va, la, da, ba⟩ := both_of hP hPl (by decide)
  have vb := lbits_fn (a := a) (by omega) (by omega)
  have z := zero_fn (n := 0) (by rw [show wg 0 = [] from dgB_zero _]; decide)
  by_cases hneg : n < 0
  · have p := npowE_fn (a := a) hneg (by omega)
    refine fn1N_of pl3 (by kernel_rfl) Tryd.call3 Tryd.func3 rfl (by kernel_rfl) rfl [.tmp 4] (by kernel_rfl) fun Q hQ => ?_
    repeat (first | (refine callV0 (awake5_fn) rfl rfl ?_) | (refine callV0 (fp) rfl rfl ?_) | (refine callV0 (oa) rfl rfl ?_) | (refine callV0 (va) rfl rfl ?_) | (refine callV0 (vb) rfl rfl ?_) | (refine callV0 (z) rfl rfl ?_) | (refine callV0 (p) rfl rfl ?_) | (simp (maxSteps := 1000000) (disch := (first | omega | (simp only [lnA, List.length_map, List.length_range, true_and, and_true]; (try omega); done) | fail)) only [go_sem, eq_self, decide_true, decide_false, List.append_eq, List.cons_append, List.nil_append, Int.reduceEq, Int.reduceToNat, Nat.reduceAdd, Nat.reduceMul, Nat.reduceEqDiff, ↓reduceIte]))
    exact endW [] hQ
  obtain ⟨N, rfl⟩ := Int.eq_ofNat_of_zero_le (show 0 ≤ n by omega)
  by_cases hb : 1 < bl a
  · have hdd : (8192 : Int) / (bl a : Int) = ((8192 / bl a : Nat) : Int) := by simp
    have hq := Nat.le_div_iff_mul_le (x := N) (y := 8192) (show 0 < bl a by omega)
    have hdv : 8192 / bl a ≤ 8192 := Nat.div_le_self _ _
    by_cases hs : 8192 / bl a < N
    · have p := npowS_fn (a := a) (n := N) hb (by omega) (by omega) hs
      refine fn1N_of pl3 (by kernel_rfl) Tryd.call3 Tryd.func3 rfl (by kernel_rfl) rfl [.tmp 4] (by kernel_rfl) fun Q hQ => ?_
      generalize 8192 / bl a = g at *
      repeat (first | (refine callV0 (awake5_fn) rfl rfl ?_) | (refine callV0 (fp) rfl rfl ?_) | (refine callV0 (oa) rfl rfl ?_) | (refine callV0 (va) rfl rfl ?_) | (refine callV0 (vb) rfl rfl ?_) | (refine callV0 (z) rfl rfl ?_) | (refine callV0 (p) rfl rfl ?_) | (simp (maxSteps := 1000000) (disch := (first | omega | (simp only [lnA, List.length_map, List.length_range, true_and, and_true]; (try omega); done) | fail)) only [go_sem, eq_self, decide_true, decide_false, List.append_eq, List.cons_append, List.nil_append, hdd, Int.reduceEq, Int.reduceToNat, Nat.reduceAdd, Nat.reduceMul, Nat.reduceEqDiff, ↓reduceIte]))
      exact endW [] hQ
    · have hle : N * bl a ≤ 8192 := hq.1 (by omega)
      have hmul : (bl a : Int) * (N : Int) = ((N * bl a : Nat) : Int) := by rw [Nat.mul_comm]; simp
      have p := npow_fn (a := a) (n := N) (by omega) (by omega) (fun _ => hle)
      have hbN := pow_bl7 (a := a) (i := N) hle (Nat.le_refl N)
      by_cases h7 : 700 < N * bl a
      · obtain ⟨M, rfl⟩ : ∃ M, N = M + 1 := ⟨N - 1, by rcases Nat.eq_zero_or_pos N with rfl | h <;> omega⟩
        have hle' : M * bl a ≤ 8192 := Nat.le_trans (Nat.mul_le_mul_right _ (Nat.le_succ M)) hle
        have p2 := npow_fn (a := a) (n := M) (by omega) (by omega) (fun _ => hle')
        have hbM := pow_bl7 (a := a) (i := M) hle' (Nat.le_refl M)
        have wM : (wg (a ^ M)).length ≤ 129 := wg_bl (by omega)
        have wN : (wg (a ^ (M + 1))).length ≤ 129 := wg_bl (by omega)
        have m := nmul_fn (a := a ^ M) (b := a) (by omega) (by omega)
        rw [← Nat.pow_succ] at m
        have c := ncmp_fn (a := a ^ (M + 1)) (b := a ^ (M + 1)) (by omega) (by omega)
        rw [cmpI_eq] at c
        have hm1 : ((M + 1 : Nat) : Int) - 1 = (M : Int) := by omega
        clear hq hle' hbM hbN
        refine fn1N_of pl3 (by kernel_rfl) Tryd.call3 Tryd.func3 rfl (by kernel_rfl) rfl [.tmp 4] (by kernel_rfl) fun Q hQ => ?_
        generalize 8192 / bl a = g at *
        generalize (M + 1) * bl a = mb at *
        generalize a ^ (M + 1) = aN at *
        generalize a ^ M = aM at *
        repeat (first | (refine callV0 (awake5_fn) rfl rfl ?_) | (refine callV0 (fp) rfl rfl ?_) | (refine callV0 (oa) rfl rfl ?_) | (refine callV0 (va) rfl rfl ?_) | (refine callV0 (vb) rfl rfl ?_) | (refine callV0 (z) rfl rfl ?_) | (refine callV0 (p) rfl rfl ?_) | (refine callV0 (p2) rfl rfl ?_) | (refine callV0 (m) rfl rfl ?_) | (refine callV0 (c) rfl rfl ?_) | (simp (maxSteps := 1000000) (disch := (first | omega | (simp only [lnA, List.length_map, List.length_range, true_and, and_true]; (try omega); done) | fail)) only [go_sem, eq_self, decide_true, decide_false, List.append_eq, List.cons_append, List.nil_append, hdd, hmul, hm1, Int.reduceEq, Int.reduceToNat, Nat.reduceAdd, Nat.reduceMul, Nat.reduceEqDiff, ↓reduceIte]))
        exact endW [] hQ
      · have dN : ∀ i, i ≤ N → (dg (a ^ i)).length ≤ 54 := fun i hi => dg_bl (Nat.le_trans (pow_bl7 (K := 700) (a := a) (n := N) (by omega) hi) (by decide))
        have l := lpow_fn (a := a) (n := N) (by omega) (by omega) (fun i hi => Nat.le_trans (dN i hi) (by decide))
        have wN : (wg (a ^ N)).length ≤ 129 := wg_bl (by omega)
        have i1 := is5_fn (n := a ^ N) (by omega) (Nat.le_trans (dN N (Nat.le_refl N)) (by decide))
        clear hq hbN dN
        refine fn1N_of pl3 (by kernel_rfl) Tryd.call3 Tryd.func3 rfl (by kernel_rfl) rfl [.tmp 4] (by kernel_rfl) fun Q hQ => ?_
        generalize 8192 / bl a = g at *
        generalize N * bl a = mb at *
        generalize a ^ N = aN at *
        repeat (first | (refine callV0 (awake5_fn) rfl rfl ?_) | (refine callV0 (fp) rfl rfl ?_) | (refine callV0 (oa) rfl rfl ?_) | (refine callV0 (va) rfl rfl ?_) | (refine callV0 (vb) rfl rfl ?_) | (refine callV0 (z) rfl rfl ?_) | (refine callV0 (p) rfl rfl ?_) | (refine callV0 (l) rfl rfl ?_) | (refine callV0 (i1) rfl rfl ?_) | (simp (maxSteps := 1000000) (disch := (first | omega | (simp only [lnA, List.length_map, List.length_range, true_and, and_true]; (try omega); done) | fail)) only [go_sem, eq_self, decide_true, decide_false, List.append_eq, List.cons_append, List.nil_append, hdd, hmul, Int.reduceEq, Int.reduceToNat, Nat.reduceAdd, Nat.reduceMul, Nat.reduceEqDiff, ↓reduceIte]))
        exact endW [] hQ
  · have p := npow_fn (a := a) (n := N) (by omega) (by omega) (fun h => absurd h hb)
    have e := pow_min (a := a) (by omega) N
    have ha1 : a < 2 := by
      have h2 := bl_lt a
      have h3 : 2 ^ bl a ≤ 2 ^ 1 := Nat.pow_le_pow_right (by decide) (by omega)
      omega
    rw [e] at p
    obtain ⟨K, hK⟩ : ∃ K, min N 1 = K := ⟨_, rfl⟩
    have hK' : min (N : Int) 1 = (K : Int) := by omega
    rw [hK] at p e
    have hp : ∀ i, i ≤ K → a ^ i < 2 := fun i hi => by
      have : i = 0 ∨ i = 1 := by omega
      rcases this with rfl | rfl
      · rw [Nat.pow_zero]; decide
      · rw [Nat.pow_one]; exact ha1
    have l := lpow_fn (a := a) (n := K) (by omega) (by omega) (fun i hi => Nat.le_trans (dg_len (k := 1) (Nat.lt_trans (hp i hi) (by decide))) (by decide))
    have hK2 := hp K (Nat.le_refl K)
    have i1 := is5_fn (n := a ^ K) (Nat.le_trans (wg_one (Nat.lt_trans hK2 (by decide))) (by decide)) (Nat.le_trans (dg_len (k := 1) (Nat.lt_trans hK2 (by decide))) (by decide))
    clear hp e hK2
    refine fn1N_of pl3 (by kernel_rfl) Tryd.call3 Tryd.func3 rfl (by kernel_rfl) rfl [.tmp 4] (by kernel_rfl) fun Q hQ => ?_
    generalize a ^ K = aN at *
    repeat (first | (refine callV0 (awake5_fn) rfl rfl ?_) | (refine callV0 (fp) rfl rfl ?_) | (refine callV0 (oa) rfl rfl ?_) | (refine callV0 (va) rfl rfl ?_) | (refine callV0 (vb) rfl rfl ?_) | (refine callV0 (z) rfl rfl ?_) | (refine callV0 (p) rfl rfl ?_) | (refine callV0 (l) rfl rfl ?_) | (refine callV0 (i1) rfl rfl ?_) | (simp (maxSteps := 1000000) (disch := (first | omega | (simp only [lnA, List.length_map, List.length_range, true_and, and_true]; (try omega); done) | fail)) only [go_sem, eq_self, decide_true, decide_false, List.append_eq, List.cons_append, List.nil_append, hK', Int.reduceEq, Int.reduceToNat, Nat.reduceAdd, Nat.reduceMul, Nat.reduceEqDiff, ↓reduceIte]))
    exact endW [] hQ
end Go.Proofs.YtfkpfhjfjnnbbaaDoor
