import Derived.Test.YtdmdmdoeahhkiaaGreatDoorRb
import Derived.Test.YtdmdmdoeahhkiaaGreatDoorD1
namespace Go.Proofs.YtdmdmdoeahhkiaaGreatDoor
open Go.Eng Go.Vx
set_option linter.unusedSimpArgs false
set_option linter.unusedVariables false
set_option maxRecDepth 100000
theorem dg_len {n k : Nat} (h : n < 10000 ^ k) : (dg n).length ≤ k := (dgB_len_le (by decide)).2 h
theorem dg_mul (a b : Nat) : (dg (a * b)).length ≤ (dg a).length + (dg b).length := dgB_len_mul (by decide) a b
theorem dg_mono {a b : Nat} (h : a ≤ b) : (dg a).length ≤ (dg b).length := dgB_len_mono (by decide) h
theorem dg_zero : dg 0 = [] := dgB_zero _
def wv (W : List Nat) : Nat := valB 18446744073709551616 W
theorem ldiv_fn {a b : Nat} (hb : 0 < b) (ha : (dg a).length ≤ 200000) (hbl : (dg b).length ≤ 200000) : Fn1 Tryz.prog 129 [DV a, DV b] [] (.tup [DV (a / b), DV (a % b)]) [] := by
  refine fn1N_of pl129 (by kernel_rfl) Tryz.call129 Tryz.func129 rfl (by kernel_rfl) rfl [.tmp 4, .tmp 5] (by kernel_rfl) fun Q hQ => ?_
  have hal : ∀ d ∈ dg a, d < 10000 := dgB_lt (B := 10000) (by decide) a
  have hav : valB 10000 (dg a) = a := dgB_val (by decide) a
  have hnA := nl_len (dg a)
  refine runW ?_
  refine LoopV_of (X := Nat × List Nat × Nat) (st := fun x => ([(0, DV a), (1, DV b), (6, .sl 0 1 0 (dg a).length), (7, DV x.2.2), (8, .lit (.int .i64 ((x.1 : Int) - 1)))], [some (.row 1 ((nl x.2.1).map (ie .i64)))]))
    (inv := fun x => x.1 ≤ (dg a).length ∧ x.2.1.length = (dg a).length ∧ (∀ d ∈ x.2.1, d < 10000) ∧ x.2.2 < b ∧ valB 10000 ((dg a).drop x.1) = b * valB 10000 (x.2.1.drop x.1) + x.2.2)
    (m := fun x => x.1) ((dg a).length, List.replicate (dg a).length 0, 0) [some 0] rfl (by simp only [← nl_rep]; (simp (disch := (first | omega | (simp only [lnA, List.length_map, List.length_range, true_and, and_true]; (try omega); done) | fail)) only [go_sem, Int.reduceEq, Int.reduceToNat, Nat.reduceAdd, Nat.reduceMul, Nat.reduceEqDiff, ↓reduceIte, true_and, and_true, and_self, List.drop_zero, List.take_length, Nat.le_refl, V.lit.injEq, Value.int.injEq, Value.bool.injEq]; try (first | omega | (simp; done) | (simp; omega)))) (by simp only [DV, dg_zero, nl_nil, List.map_nil]; (simp (disch := (first | omega | (simp only [lnA, List.length_map, List.length_range, true_and, and_true]; (try omega); done) | fail)) only [go_sem, Int.reduceEq, Int.reduceToNat, Nat.reduceAdd, Nat.reduceMul, Nat.reduceEqDiff, ↓reduceIte, true_and, and_true, and_self, List.drop_zero, List.take_length, Nat.le_refl, V.lit.injEq, Value.int.injEq, Value.bool.injEq]; try (first | omega | (simp; done) | (simp; omega))))
    ⟨Nat.le_refl _, by simp, fun d hd => by rw [List.eq_of_mem_replicate hd]; decide, hb, by simp [valB]⟩ ?_
  rintro ⟨k, Q', r⟩ ⟨hk, hQl, hQd, hr, hv⟩
  simp only at hk hQl hQd hr hv ⊢
  have hnQ := nl_len Q'
  by_cases h : 0 < k
  · obtain ⟨i, rfl⟩ : ∃ i, k = i + 1 := ⟨k - 1, by omega⟩
    have hga := nl_get (dg a) i
    have hxa := getD_ltB (by decide) hal i
    have hdv := drop_val (l := dg a) (i := i) (B := 10000) (by omega)
    have hki : (((i + 1 : Nat) : Int) - 1).toNat = i := by omega
    obtain ⟨x, hx⟩ : ∃ x, (dg a).getD i 0 = x := ⟨_, rfl⟩
    rw [hx] at hga hxa hdv
    have hrl := dg_mono (show r ≤ b by omega)
    have hnr := nl_len (dg r)
    have hcl : [PV.lit (.int .i64 (x : Int))] :: List.map (ie .i64) (nl (dg r)) = List.map (ie .i64) (nl (x :: dg r)) := rfl
    have hnc : (nl (x :: dg r)).length = (dg r).length + 1 := by rw [nl_len]; rfl
    have hrd : ∀ d ∈ x :: dg r, d < 10000 := fun d hd => by
      rcases List.mem_cons.1 hd with rfl | hd
      · exact hxa
      · exact dgB_lt (by decide) r d hd
    have hRv : valB 10000 (x :: dg r) = x + 10000 * r := by
      show x + 10000 * valB 10000 (dgB 10000 r) = _
      rw [dgB_val (by decide)]
    simp (maxSteps := 1000000) (disch := (first | omega | (simp only [lnA, List.length_map, List.length_range, true_and, and_true]; (try omega); done) | fail)) only [go_sem, hki, hga, hcl, Int.reduceEq, Int.reduceToNat, Nat.reduceAdd, Nat.reduceMul, Nat.reduceEqDiff, ↓reduceIte]
    refine callW [] [2] (trim_fn (l := x :: dg r) hrd (by simp only [List.length_cons]; omega)) ?_
    rw [hRv]
    obtain ⟨R, hR⟩ : ∃ R, x + 10000 * r = R := ⟨_, rfl⟩
    rw [hR]
    have hRb : R < b * 10000 := by omega
    have hRl : (dg R).length ≤ 200002 := by
      have h1 := dg_mono (show R ≤ b * 10000 by omega)
      have h2 := dg_mul b 10000
      have h3 : (dg 10000).length ≤ 2 := dg_len (by decide)
      omega
    refine runW ?_
    refine loopW (X := Nat × Nat) (st := fun z => ([(0, DV a), (1, DV b), (6, .sl 0 1 0 (dg a).length), (7, DV R), (8, .lit (.int .i64 (i : Int))), (9, .lit (.int .i64 (z.1 : Int))), (10, .lit (.int .i64 (z.2 : Int)))], [some (.row 1 ((nl Q').map (ie .i64)))]))
      (inv := fun z => z.1 < z.2 ∧ z.2 ≤ 10000 ∧ b * z.1 ≤ R ∧ R < b * z.2) (m := fun z => z.2 - z.1) (0, 10000) [some 0] ⟨by decide, by decide, by simp, hRb⟩ ?_
    rintro ⟨lo, hi⟩ ⟨hlh, hhi, hlo, hup⟩
    simp only at hlh hhi hlo hup ⊢
    by_cases hgo : 1 < hi - lo
    · have hmid : ((lo : Int) + (hi : Int)) / 2 = (((lo + hi) / 2 : Nat) : Int) := by omega
      obtain ⟨m, hm⟩ : ∃ m, (lo + hi) / 2 = m := ⟨_, rfl⟩
      rw [hm] at hmid
      have hml : (dg m).length ≤ 2 := dg_len (Nat.lt_of_le_of_lt (show m ≤ 10000 by omega) (by decide))
      have hbm := dg_mul b m
      simp (maxSteps := 1000000) (disch := (first | omega | (simp only [lnA, List.length_map, List.length_range, true_and, and_true]; (try omega); done) | fail)) only [go_sem, hmid, Int.reduceEq, Int.reduceToNat, Nat.reduceAdd, Nat.reduceMul, Nat.reduceEqDiff, ↓reduceIte]
      refine callV0 (small_fn (n := m) (by omega)) rfl rfl ?_
      refine runW ?_
      refine callV0 (lmul_fn (a := b) (b := m) (by omega) (by omega)) rfl rfl ?_
      refine runW ?_
      refine callV0 (lcmp_fn (a := b * m) (b := R) (by omega) (by omega)) rfl rfl ?_
      by_cases hle : b * m ≤ R
      · have hc : cmpI (b * m) R ≤ 0 := by unfold cmpI; split <;> (try split) <;> omega
        simp (maxSteps := 1000000) (disch := (first | omega | (simp only [lnA, List.length_map, List.length_range, true_and, and_true]; (try omega); done) | fail)) only [go_sem, decide_eq_true hc, Int.reduceEq, Int.reduceToNat, Nat.reduceAdd, Nat.reduceMul, Nat.reduceEqDiff, ↓reduceIte]
        refine nextW (m, hi) [some 0] ⟨by simp only; omega, hhi, hle, hup⟩ (by simp only; omega)
      · have hc : ¬ cmpI (b * m) R ≤ 0 := by unfold cmpI; rw [if_neg (by omega), if_pos (by omega)]; decide
        simp (maxSteps := 1000000) (disch := (first | omega | (simp only [lnA, List.length_map, List.length_range, true_and, and_true]; (try omega); done) | fail)) only [go_sem, decide_eq_false hc, Int.reduceEq, Int.reduceToNat, Nat.reduceAdd, Nat.reduceMul, Nat.reduceEqDiff, ↓reduceIte]
        refine nextW (lo, m) [some 0] ⟨by simp only; omega, by simp only; omega, hlo, by simp only; omega⟩ (by simp only; omega)
    · obtain rfl : hi = lo + 1 := by omega
      have hset := nl_set Q' i lo
      have hll : (dg lo).length ≤ 2 := dg_len (Nat.lt_of_le_of_lt (show lo ≤ 10000 by omega) (by decide))
      have hbm := dg_mul b lo
      simp (maxSteps := 1000000) (disch := (first | omega | (simp only [lnA, List.length_map, List.length_range, true_and, and_true]; (try omega); done) | fail)) only [go_sem, hset, Int.reduceEq, Int.reduceToNat, Nat.reduceAdd, Nat.reduceMul, Nat.reduceEqDiff, ↓reduceIte]
      refine callV0 (small_fn (n := lo) (by omega)) rfl rfl ?_
      refine runW ?_
      refine callV0 (lmul_fn (a := b) (b := lo) (by omega) (by omega)) rfl rfl ?_
      refine runW ?_
      refine callV0 (lsub_fn (a := R) (b := b * lo) hlo (by omega)) rfl rfl ?_
      refine runW ?_
      rw [Nat.mul_add, Nat.mul_one] at hup
      refine nextW (i, Q'.set i lo, R - b * lo) [some 0] ⟨by simp only; omega, by simpa using hQl, setB hQd (by omega), by simp only; omega, ?_⟩ (by simp only; omega)
      simp only
      rw [set_drop (by omega), hdv, hv]
      show x + 10000 * (b * valB 10000 (Q'.drop (i + 1)) + r) = b * (lo + 10000 * valB 10000 (Q'.drop (i + 1))) + (R - b * lo)
      rw [Nat.mul_add, Nat.mul_add, Nat.mul_left_comm 10000 b]
      omega
  · obtain rfl : k = 0 := by omega
    rw [List.drop_zero, List.drop_zero, hav] at hv
    have hdm := (Nat.div_mod_unique hb (a := a) (c := r) (d := valB 10000 Q')).2 ⟨by omega, hr⟩
    rw [hdm.1, hdm.2] at hQ
    refine runW ?_
    refine callW [] [0] (trim_fn (l := Q') hQd (by omega)) ?_
    refine runW ?_
    exact endW [] hQ
end Go.Proofs.YtdmdmdoeahhkiaaGreatDoor
