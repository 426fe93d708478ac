import Derived.Test.YteookgjmohokiaaGreatHc
namespace Go.Proofs.YteookgjmohokiaaGreat
open Go.Eng Go.Vx
set_option linter.unusedSimpArgs false
set_option linter.unusedVariables false
set_option maxRecDepth 100000
def goodI (k a b : Int) : Prop := ∃ k' a' b' : Nat, k = k' ∧ a = a' ∧ b = b' ∧ goodN k' a' b'
theorem kindX_fn {k a w : Int} (h1 : k ≠ 1) (h2 : k ≠ 2) (h3 : k ≠ 3) : Fn1 Tryz.prog 95 [.agg [.lit (.int .i64 k), .lit (.int .i64 a), .lit (.int .i64 w)]] [] (.lit .nilIface) [] := by
  refine fn1N_of pl95 (by kernel_rfl) Tryz.call95 Tryz.func95 rfl (by kernel_rfl) rfl [.tmp 2] (by kernel_rfl) fun Q hQ => ?_
  refine runW ?_
  exact endW [] hQ
set_option maxHeartbeats 1000000 in
theorem cCheckB_fn {k a b : Int} (h : ¬ goodI k a b) (h4 : k ≠ 4) : Fn1 Tryz.prog 82 [.agg [.lit (.int .i64 k), .lit (.int .i64 a), .lit (.int .i64 b)]] [] (.lit (.int .i64 10)) [] := by
  by_cases h1 : k = 1
  · subst h1
    have k1 := kind1_fn (a := a) (w := b)
    have g := amgood_fn (a := a)
    by_cases ha : 1 ≤ a ∧ a ≤ 4096
    · rw [decide_eq_true ha] at g
      by_cases hb1 : 1 ≤ b
      · by_cases hb2 : b ≤ 10
        · obtain ⟨x, rfl⟩ := Int.eq_ofNat_of_zero_le (show 0 ≤ a by omega)
          obtain ⟨y, rfl⟩ := Int.eq_ofNat_of_zero_le (show 0 ≤ b by omega)
          have hm : ¬ bl (x + 1) * (2 ^ y - 1) ≤ 8192 := fun hm => h ⟨1, x, y, rfl, rfl, rfl, .inl ⟨rfl, by omega, by omega, by omega, by omega, hm⟩⟩
          have ln := len_fn (n := x + 1) (by omega)
          have ha1 : (x : Int) + 1 = ((x + 1 : Nat) : Int) := by omega
          have hs := shW (k := y) (by omega)
          have hp : 1 ≤ 2 ^ y := Nat.pow_pos (by decide)
          have hp2 : 2 ^ y ≤ 2 ^ 10 := Nat.pow_le_pow_right (by decide) (by omega)
          have hb := bl_le_of (n := x + 1) (k := 13) (by omega)
          have hm2 : ((bl (x + 1) : Nat) : Int) * (((2 ^ y : Nat) : Int) - 1) = ((bl (x + 1) * (2 ^ y - 1) : Nat) : Int) := by
            rw [show (((2 ^ y : Nat) : Int) - 1) = ((2 ^ y - 1 : Nat) : Int) by omega]
            simp
          have hbd : bl (x + 1) * (2 ^ y - 1) ≤ 13 * 1024 := Nat.mul_le_mul hb (by omega)
          refine fn1N_of pl82 (by kernel_rfl) Tryz.call82 Tryz.func82 rfl (by kernel_rfl) rfl [.tmp 2] (by kernel_rfl) fun Q hQ => ?_
          refine runW ?_
          refine callV0 (k1) rfl rfl ?_
          refine runW ?_
          refine callV0 (g) rfl rfl ?_
          simp (maxSteps := 1000000) (disch := (first | omega | (simp only [lnA, List.length_map, List.length_range, true_and, and_true]; (try omega); done) | fail)) only [go_sem, ha1, Int.reduceEq, Int.reduceToNat, Nat.reduceAdd, Nat.reduceMul, Nat.reduceEqDiff, ↓reduceIte]
          refine callV0 (ln) rfl rfl ?_
          generalize bl (x + 1) * (2 ^ y - 1) = m at *
          simp (maxSteps := 1000000) (disch := (first | omega | (simp only [lnA, List.length_map, List.length_range, true_and, and_true]; (try omega); done) | fail)) only [go_sem, hs, Int.toNat_natCast, hm2, Int.reduceEq, Int.reduceToNat, Nat.reduceAdd, Nat.reduceMul, Nat.reduceEqDiff, ↓reduceIte]
          exact endW [] hQ
        · refine fn1N_of pl82 (by kernel_rfl) Tryz.call82 Tryz.func82 rfl (by kernel_rfl) rfl [.tmp 2] (by kernel_rfl) fun Q hQ => ?_
          refine runW ?_
          refine callV0 (k1) rfl rfl ?_
          refine runW ?_
          refine callV0 (g) rfl rfl ?_
          refine runW ?_
          exact endW [] hQ
      · refine fn1N_of pl82 (by kernel_rfl) Tryz.call82 Tryz.func82 rfl (by kernel_rfl) rfl [.tmp 2] (by kernel_rfl) fun Q hQ => ?_
        refine runW ?_
        refine callV0 (k1) rfl rfl ?_
        refine runW ?_
        refine callV0 (g) rfl rfl ?_
        refine runW ?_
        exact endW [] hQ
    · rw [decide_eq_false ha] at g
      refine fn1N_of pl82 (by kernel_rfl) Tryz.call82 Tryz.func82 rfl (by kernel_rfl) rfl [.tmp 2] (by kernel_rfl) fun Q hQ => ?_
      refine runW ?_
      refine callV0 (k1) rfl rfl ?_
      refine runW ?_
      refine callV0 (g) rfl rfl ?_
      refine runW ?_
      exact endW [] hQ
  · by_cases h2 : k = 2
    · subst h2
      have k1 := kind2_fn (a := a) (w := b)
      have g := afgood_fn (a := a)
      by_cases ha : 0 ≤ a ∧ a ≤ 8
      · rw [decide_eq_true ha] at g
        have hb : b < 1 ∨ 10 < b := by
          refine Classical.byContradiction fun hc => h ⟨2, a.toNat, b.toNat, rfl, by omega, by omega, .inr (.inl ⟨rfl, by omega, by omega, by omega⟩)⟩
        refine fn1N_of pl82 (by kernel_rfl) Tryz.call82 Tryz.func82 rfl (by kernel_rfl) rfl [.tmp 2] (by kernel_rfl) fun Q hQ => ?_
        rcases hb with hb | hb
        · refine runW ?_
          refine callV0 (k1) rfl rfl ?_
          refine runW ?_
          refine callV0 (g) rfl rfl ?_
          refine runW ?_
          exact endW [] hQ
        · refine runW ?_
          refine callV0 (k1) rfl rfl ?_
          refine runW ?_
          refine callV0 (g) rfl rfl ?_
          refine runW ?_
          exact endW [] hQ
      · rw [decide_eq_false ha] at g
        refine fn1N_of pl82 (by kernel_rfl) Tryz.call82 Tryz.func82 rfl (by kernel_rfl) rfl [.tmp 2] (by kernel_rfl) fun Q hQ => ?_
        refine runW ?_
        refine callV0 (k1) rfl rfl ?_
        refine runW ?_
        refine callV0 (g) rfl rfl ?_
        refine runW ?_
        exact endW [] hQ
    · by_cases h3 : k = 3
      · subst h3
        have k1 := kind3_fn (a := a) (w := b)
        have g := aygood_fn (a := a)
        by_cases ha : 1 ≤ a ∧ a ≤ 5
        · rw [decide_eq_true ha] at g
          have hb : b < 1 ∨ 10 < b := by
            refine Classical.byContradiction fun hc => h ⟨3, a.toNat, b.toNat, rfl, by omega, by omega, .inr (.inr (.inl ⟨rfl, by omega, by omega, by omega, by omega⟩))⟩
          refine fn1N_of pl82 (by kernel_rfl) Tryz.call82 Tryz.func82 rfl (by kernel_rfl) rfl [.tmp 2] (by kernel_rfl) fun Q hQ => ?_
          rcases hb with hb | hb
          · refine runW ?_
            refine callV0 (k1) rfl rfl ?_
            refine runW ?_
            refine callV0 (g) rfl rfl ?_
            refine runW ?_
            exact endW [] hQ
          · refine runW ?_
            refine callV0 (k1) rfl rfl ?_
            refine runW ?_
            refine callV0 (g) rfl rfl ?_
            refine runW ?_
            exact endW [] hQ
        · rw [decide_eq_false ha] at g
          refine fn1N_of pl82 (by kernel_rfl) Tryz.call82 Tryz.func82 rfl (by kernel_rfl) rfl [.tmp 2] (by kernel_rfl) fun Q hQ => ?_
          refine runW ?_
          refine callV0 (k1) rfl rfl ?_
          refine runW ?_
          refine callV0 (g) rfl rfl ?_
          refine runW ?_
          exact endW [] hQ
      · have k1 := kindX_fn (a := a) (w := b) h1 h2 h3
        refine fn1N_of pl82 (by kernel_rfl) Tryz.call82 Tryz.func82 rfl (by kernel_rfl) rfl [.tmp 2] (by kernel_rfl) fun Q hQ => ?_
        refine runW ?_
        refine callV0 (k1) rfl rfl ?_
        refine runW ?_
        exact endW [] hQ
theorem tCheckB_fn {a b : Int} (h : a < 1 ∨ 1023 < a ∨ b < 0 ∨ 20 < b) : Fn1 Tryz.prog 80 [.agg [.lit (.int .i64 a), .lit (.int .i64 b)]] [] (.lit (.int .i64 10)) [] := by
  refine fn1N_of pl80 (by kernel_rfl) Tryz.call80 Tryz.func80 rfl (by kernel_rfl) rfl [.tmp 2] (by kernel_rfl) fun Q hQ => ?_
  by_cases h1 : a < 1
  · refine runW ?_
    exact endW [] hQ
  · by_cases h2 : 1023 < a
    · refine runW ?_
      exact endW [] hQ
    · by_cases h3 : b < 0
      · refine runW ?_
        exact endW [] hQ
      · have h4 : 20 < b := by omega
        refine runW ?_
        exact endW [] hQ
theorem rCheckB_fn {k a b : Int} (h : ¬ goodI k a b) : Fn1 Tryz.prog 60 [.agg [.lit (.int .i64 k), .lit (.int .i64 a), .lit (.int .i64 b)]] [] (.lit (.int .i64 10)) [] := by
  refine fn1N_of pl60 (by kernel_rfl) Tryz.call60 Tryz.func60 rfl (by kernel_rfl) rfl [.tmp 2] (by kernel_rfl) fun Q hQ => ?_
  by_cases h4 : k = 4
  · subst h4
    have c := tCheckB_fn (a := a) (b := b) (Classical.byContradiction fun hc => h ⟨4, a.toNat, b.toNat, rfl, by omega, by omega, .inr (.inr (.inr ⟨rfl, by omega, by omega, by omega⟩))⟩)
    have t := rthin_fn (k := 4) (a := a) (b := b)
    refine runW ?_
    refine callV0 (t) rfl rfl ?_
    refine runW ?_
    refine callV0 (c) rfl rfl ?_
    refine runW ?_
    exact endW [] hQ
  · have c := cCheckB_fn h h4
    have t := rchain_fn (k := k) (a := a) (b := b)
    refine runW ?_
    refine callV0 (t) rfl rfl ?_
    refine runW ?_
    refine callV0 (c) rfl rfl ?_
    refine runW ?_
    exact endW [] hQ
end Go.Proofs.YteookgjmohokiaaGreat
