import Derived.Test.YtdmdmdoeahhkiaaGreatDoorAh
import Derived.Test.YtdmdmdoeahhkiaaGreatDoorAi
import Derived.Test.YtdmdmdoeahhkiaaGreatDoorYi
import Derived.Test.YtdmdmdoeahhkiaaGreatDoorFw
import Derived.Test.YtdmdmdoeahhkiaaGreatDoorNi
import Derived.Test.YtdmdmdoeahhkiaaGreatDoorAc
namespace Go.Proofs.YtdmdmdoeahhkiaaGreatDoor
open Go.Eng Go.Vx
set_option linter.unusedSimpArgs false
set_option linter.unusedVariables false
set_option maxRecDepth 100000
theorem amsUpdates_fn {a b c : Int} {W : List Nat} {L0 : List Bool} (hW : W.length ≤ 9223372036854775807) (hk : ∀ k ∈ W, k < 18446744073709551616) (hL0 : L0.length ≤ 9223372036854775807) :
    Fn1 Tryz.prog 3 [.agg [.lit (.int .i64 a), .lit (.int .i64 b), .lit (.int .i64 c)], .row 1 ((nl W).map (ie .u64)), .row 1 (L0.map be)] [] (.lit (.bool true)) [] := by
  obtain ⟨K, P, C, hg, hoA, hP, hC, hK, how⟩ := own22_fn (a := a) (b := b) (c := c)
  have hfw := few9_fn (L := L0) (n := 500) hL0 (by decide)
  rw [show ((500 : Nat) : Int) = 500 from rfl] at hfw
  have hLl : (L0.take 500).length ≤ 500 := by rw [List.length_take]; omega
  generalize L0.take 500 = L at *
  have hp := plays22_fn (L := L) hg hW hk (by omega)
  refine fn1N_of pl3 (by kernel_rfl) Tryz.call3 Tryz.func3 rfl (by kernel_rfl) rfl [.tmp 6] (by kernel_rfl) fun Q hQ => ?_
  refine runW ?_
  refine callV0 (awake22_fn) rfl rfl ?_
  refine runW ?_
  refine callV0 (how) rfl rfl ?_
  refine runW ?_
  refine callV0 (hfw) rfl rfl ?_
  refine runW ?_
  refine callR [] [] (hp) ?_
  rintro ⟨X, N, p, e⟩ hy
  refine runW ?_
  exact endW [] hQ
theorem sumE_zero {K : Int} {P : Nat} : ∀ (X : List (Nat × Nat)), sumE K P 0 X = 0 := by
  intro X
  induction X with
  | nil => rfl
  | cons x X ih =>
    show estV K P 0 x + sumE K P 0 X = 0
    rw [ih]
    unfold estV
    rw [show (((0 : Nat) : Int) : Rat) = 0 from rfl]
    grind
theorem dg_le40 {n : Nat} (h : n ≤ 2 ^ 160) : (dg n).length ≤ 40 := dg_len (Nat.lt_of_le_of_lt h (by decide))
theorem pow_le160 {N i : Nat} (hN : N ≤ 1048576) (hi : i ≤ 8) : N ^ i ≤ 2 ^ 160 := by
  refine Nat.le_trans (Nat.pow_le_pow_left hN i) ?_
  refine Nat.le_trans (Nat.pow_le_pow_right (by decide) hi) ?_
  decide
set_option maxHeartbeats 4000000 in
theorem amsChecks_fn {K P C n : Int} :
    Fn1 Tryz.prog 4 [.agg [.lit (.int .i64 K), .lit (.int .i64 P), .lit (.int .i64 C)], .lit (.int .i64 n)] [] (.lit (.bool true)) [] := by
  by_cases hg : goodA K P C
  · obtain ⟨P, rfl⟩ : ∃ p : Nat, P = (p : Int) := ⟨P.toNat, by obtain ⟨h, _⟩ := hg; omega⟩
    obtain ⟨C, rfl⟩ : ∃ p : Nat, C = (p : Int) := ⟨C.toNat, by obtain ⟨_, h⟩ := hg; omega⟩
    obtain ⟨N, hN⟩ : ∃ p : Nat, max 0 (min n 1048576) = (p : Int) := ⟨(max 0 (min n 1048576)).toNat, by omega⟩
    have hN2 : N ≤ 1048576 := by omega
    have hn := anew_fn hg
    have hzl : (List.replicate C ((0 : Nat), (0 : Nat))).length = C := List.length_replicate
    have hzb : ∀ x ∈ List.replicate C ((0 : Nat), (0 : Nat)), x.2 ≤ 1048576 := fun x hx => by rw [List.eq_of_mem_replicate hx]; exact by decide
    generalize List.replicate C ((0 : Nat), (0 : Nat)) = z0 at *
    have hck := acheck_fn hg
    have tot := atotal_fn (K := K) (P := (P : Int)) (C := (C : Int)) (X := z0) (N := 0)
    have me := aMean_fn (N := 0) hg hzl (by decide) hzb
    rw [sumE_zero, show (0 : Rat) / (((C : Nat) : Int) : Rat) = ((0 : Int) : Rat) by rw [show ((0 : Int) : Rat) = 0 from rfl, Rat.div_def]; grind] at me
    have tx := rtxt_fn (x := ((0 : Int) : Rat)) ((RS_one (by decide) (by decide)).mono (by decide))
    rw [show qS ((0 : Int) : Rat) = [48] by
      unfold qS zS
      rw [show (((0 : Int) : Rat)).num = 0 by decide +kernel, show (((0 : Int) : Rat)).den = 1 by decide +kernel, if_pos rfl, if_neg (by decide), show (0 : Int).natAbs = 0 from rfl, decS_small (by decide)]
      decide] at tx
    generalize ((0 : Int) : Rat) = zer at *
    have g := ag_fn (r := (N : Int)) (N := N) hg (by omega)
    obtain ⟨hg1, hg2, hg3⟩ := hg
    rcases hg1 with ⟨rfl, hp1, hp2⟩ | ⟨rfl, hp1⟩
    · have e : gN 1 P N = N ^ P := if_neg (by decide)
      rw [e] at g
      have hpw := fun (i : Nat) (hi : i ≤ P) => dg_le40 (pow_le160 (i := i) hN2 (by omega))
      have hwg : (wg (N ^ P)).length ≤ 3 := by have := gN_wg (K := 1) (P := P) (N := N) (by omega) hN2; rw [e] at this; exact this
      have t1 := ntext_fn (n := N ^ P) (by omega)
      have sm := small_fn (n := N) (by omega)
      have hdN : (dg N).length ≤ 40 := by have := hpw 1 (by omega); rw [Nat.pow_one] at this; exact this
      have lp := lpow_fn (a := N) (n := P) (by omega) (by omega) (fun i hi => by have := hpw i hi; omega)
      have t2 := rtext_fn (n := N ^ P) (by have := hpw P (by omega); omega)
      generalize decS (N ^ P) = s at *
      generalize N ^ P = pw at *
      refine fn1N_of pl4 (by kernel_rfl) Tryz.call4 Tryz.func4 rfl (by kernel_rfl) rfl [.tmp 4] (by kernel_rfl) fun Q hQ => ?_
      refine runW ?_
      refine callV0 (awake22_fn) rfl rfl ?_
      refine runW ?_
      refine callW [] [] (hn) ?_
      refine runW ?_
      refine callV0 (hck) rfl rfl ?_
      refine runW ?_
      refine callT (tot) ?_
      refine runW ?_
      refine callW [some 2] [] (me) ?_
      refine runW ?_
      refine callV0 (tx) rfl rfl ?_
      simp (maxSteps := 1000000) (disch := (first | omega | (simp only [lnA, List.length_map, List.length_range, true_and, and_true]; (try omega); done) | fail)) only [go_sem, hN, Int.reduceEq, Int.reduceToNat, Nat.reduceAdd, Nat.reduceMul, Nat.reduceEqDiff, ↓reduceIte]
      repeat (first | (refine callV0 (g) rfl rfl ?_) | (refine callV0 (t1) rfl rfl ?_) | (refine callV0 (sm) rfl rfl ?_) | (refine callV0 (lp) rfl rfl ?_) | (refine callV0 (t2) rfl rfl ?_) | (simp (maxSteps := 1000000) (disch := (first | omega | (simp only [lnA, List.length_map, List.length_range, true_and, and_true]; (try omega); done) | fail)) only [go_sem, eq_self, decide_true, Int.reduceEq, Int.reduceToNat, Nat.reduceAdd, Nat.reduceMul, Nat.reduceEqDiff, ↓reduceIte]))
      exact endW [] hQ
    · obtain rfl : P = 0 := by omega
      have hl := xl_le hN2
      unfold xl at hl
      have e : gN 2 0 N = N * lgN (max 1 N) := if_pos rfl
      rw [e] at g
      have hwg : (wg (N * lgN (max 1 N))).length ≤ 3 := by have := gN_wg (K := 2) (P := 0) (N := N) (by omega) hN2; rw [e] at this; exact this
      have nt := nint_fn (n := N * lgN (max 1 N)) (m := 4611686018427387904) (M := 4611686018427387904) (by decide) (by decide) (by omega)
      rw [show min (N * lgN (max 1 N)) 4611686018427387904 = N * lgN (max 1 N) by omega] at nt
      have xl := rxlog_fn (n := (N : Int)) (N := N) (by omega)
      generalize N * lgN (max 1 N) = pw at *
      refine fn1N_of pl4 (by kernel_rfl) Tryz.call4 Tryz.func4 rfl (by kernel_rfl) rfl [.tmp 4] (by kernel_rfl) fun Q hQ => ?_
      refine runW ?_
      refine callV0 (awake22_fn) rfl rfl ?_
      refine runW ?_
      refine callW [] [] (hn) ?_
      refine runW ?_
      refine callV0 (hck) rfl rfl ?_
      refine runW ?_
      refine callT (tot) ?_
      refine runW ?_
      refine callW [some 2] [] (me) ?_
      refine runW ?_
      refine callV0 (tx) rfl rfl ?_
      simp (maxSteps := 1000000) (disch := (first | omega | (simp only [lnA, List.length_map, List.length_range, true_and, and_true]; (try omega); done) | fail)) only [go_sem, hN, Int.reduceEq, Int.reduceToNat, Nat.reduceAdd, Nat.reduceMul, Nat.reduceEqDiff, ↓reduceIte]
      repeat (first | (refine callV0 (g) rfl rfl ?_) | (refine callV0 (nt) rfl rfl ?_) | (refine callV0 (xl) rfl rfl ?_) | (simp (maxSteps := 1000000) (disch := (first | omega | (simp only [lnA, List.length_map, List.length_range, true_and, and_true]; (try omega); done) | fail)) only [go_sem, eq_self, decide_true, Int.reduceEq, Int.reduceToNat, Nat.reduceAdd, Nat.reduceMul, Nat.reduceEqDiff, ↓reduceIte]))
      exact endW [] hQ
  · have hck := acheckE_fn hg
    have hn := anewE_fn hg
    have g := agE_fn (r := n) hg
    have z := zero_fn (n := 0) (by rw [show wg 0 = [] from dgB_zero _]; decide)
    rw [decide_eq_true rfl] at z
    unfold goodA at hg
    have h0 : C < 1 ∨ 16 < C ∨ (1 ≤ C ∧ C ≤ 16) := by omega
    refine fn1N_of pl4 (by kernel_rfl) Tryz.call4 Tryz.func4 rfl (by kernel_rfl) rfl [.tmp 4] (by kernel_rfl) fun Q hQ => ?_
    rcases h0 with h0 | h0 | ⟨h0, h01⟩
    · repeat (first | (refine callV0 (awake22_fn) rfl rfl ?_) | (refine callV0 (hn) rfl rfl ?_) | (refine callV0 (hck) rfl rfl ?_) | (refine callV0 (g) rfl rfl ?_) | (refine callV0 (z) rfl rfl ?_) | (simp (maxSteps := 1000000) (disch := (first | omega | (simp only [lnA, List.length_map, List.length_range, true_and, and_true]; (try omega); done) | fail)) only [go_sem, Option.isNone_none, Int.reduceEq, Int.reduceToNat, Nat.reduceAdd, Nat.reduceMul, Nat.reduceEqDiff, ↓reduceIte]))
      exact endW [] hQ
    · repeat (first | (refine callV0 (awake22_fn) rfl rfl ?_) | (refine callV0 (hn) rfl rfl ?_) | (refine callV0 (hck) rfl rfl ?_) | (refine callV0 (g) rfl rfl ?_) | (refine callV0 (z) rfl rfl ?_) | (simp (maxSteps := 1000000) (disch := (first | omega | (simp only [lnA, List.length_map, List.length_range, true_and, and_true]; (try omega); done) | fail)) only [go_sem, Option.isNone_none, Int.reduceEq, Int.reduceToNat, Nat.reduceAdd, Nat.reduceMul, Nat.reduceEqDiff, ↓reduceIte]))
      exact endW [] hQ
    · by_cases h1 : K = 1
      · subst h1
        by_cases h2 : P < 1
        · repeat (first | (refine callV0 (awake22_fn) rfl rfl ?_) | (refine callV0 (hn) rfl rfl ?_) | (refine callV0 (hck) rfl rfl ?_) | (refine callV0 (g) rfl rfl ?_) | (refine callV0 (z) rfl rfl ?_) | (simp (maxSteps := 1000000) (disch := (first | omega | (simp only [lnA, List.length_map, List.length_range, true_and, and_true]; (try omega); done) | fail)) only [go_sem, Option.isNone_none, Int.reduceEq, Int.reduceToNat, Nat.reduceAdd, Nat.reduceMul, Nat.reduceEqDiff, ↓reduceIte]))
          exact endW [] hQ
        · have h3 : 8 < P := by omega
          repeat (first | (refine callV0 (awake22_fn) rfl rfl ?_) | (refine callV0 (hn) rfl rfl ?_) | (refine callV0 (hck) rfl rfl ?_) | (refine callV0 (g) rfl rfl ?_) | (refine callV0 (z) rfl rfl ?_) | (simp (maxSteps := 1000000) (disch := (first | omega | (simp only [lnA, List.length_map, List.length_range, true_and, and_true]; (try omega); done) | fail)) only [go_sem, Option.isNone_none, Int.reduceEq, Int.reduceToNat, Nat.reduceAdd, Nat.reduceMul, Nat.reduceEqDiff, ↓reduceIte]))
          exact endW [] hQ
      · by_cases h2 : K = 2
        · subst h2
          have h3 : ¬ P = 0 := by omega
          repeat (first | (refine callV0 (awake22_fn) rfl rfl ?_) | (refine callV0 (hn) rfl rfl ?_) | (refine callV0 (hck) rfl rfl ?_) | (refine callV0 (g) rfl rfl ?_) | (refine callV0 (z) rfl rfl ?_) | (simp (maxSteps := 1000000) (disch := (first | omega | (simp only [lnA, List.length_map, List.length_range, true_and, and_true]; (try omega); done) | fail)) only [go_sem, Option.isNone_none, Int.reduceEq, Int.reduceToNat, Nat.reduceAdd, Nat.reduceMul, Nat.reduceEqDiff, ↓reduceIte]))
          exact endW [] hQ
        · repeat (first | (refine callV0 (awake22_fn) rfl rfl ?_) | (refine callV0 (hn) rfl rfl ?_) | (refine callV0 (hck) rfl rfl ?_) | (refine callV0 (g) rfl rfl ?_) | (refine callV0 (z) rfl rfl ?_) | (simp (maxSteps := 1000000) (disch := (first | omega | (simp only [lnA, List.length_map, List.length_range, true_and, and_true]; (try omega); done) | fail)) only [go_sem, Option.isNone_none, Int.reduceEq, Int.reduceToNat, Nat.reduceAdd, Nat.reduceMul, Nat.reduceEqDiff, ↓reduceIte]))
          exact endW [] hQ
end Go.Proofs.YtdmdmdoeahhkiaaGreatDoor
