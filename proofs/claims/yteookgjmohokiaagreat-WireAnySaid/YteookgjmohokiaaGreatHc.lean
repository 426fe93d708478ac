import Derived.Test.YteookgjmohokiaaGreatHa
namespace Go.Proofs.YteookgjmohokiaaGreat
open Go.Eng Go.Vx
set_option linter.unusedSimpArgs false
set_option linter.unusedVariables false
set_option maxRecDepth 100000
def pR (k a b : Nat) : V := .agg [.lit (.int .i64 (k : Int)), .lit (.int .i64 (a : Int)), .lit (.int .i64 (b : Int))]
def sR (s : Nat × Nat × Bool) : V := .agg [.lit (.int .i64 (s.1 : Int)), .lit (.int .i64 (s.2.1 : Int)), .lit (.bool s.2.2)]
attribute [go_sem] pR sR
def goodN (k a b : Nat) : Prop := (k = 1 ∧ 1 ≤ a ∧ a ≤ 4096 ∧ 1 ≤ b ∧ b ≤ 10 ∧ bl (a + 1) * (2 ^ b - 1) ≤ 8192) ∨ (k = 2 ∧ a ≤ 8 ∧ 1 ≤ b ∧ b ≤ 10) ∨ (k = 3 ∧ 1 ≤ a ∧ a ≤ 5 ∧ 1 ≤ b ∧ b ≤ 10) ∨ (k = 4 ∧ 1 ≤ a ∧ a ≤ 1023 ∧ b ≤ 20)
def wellN (k a b : Nat) (s : Nat × Nat × Bool) : Prop := if k = 4 then s.1 ≤ a ∧ s.2.1 ≤ b ∧ (s.2.2 = true → s.2.1 = b) else s.2.1 = 0 ∧ s.1 ≤ 2 ^ b - 1 ∧ (s.2.2 = true → s.1 = 2 ^ b - 1)
theorem shW {k : Nat} (h : k ≤ 32) : IntKind.i64.wrap (1 * 2 ^ k) = ((2 ^ k : Nat) : Int) := by
  have h1 : 2 ^ k ≤ 2 ^ 32 := Nat.pow_le_pow_right (by decide) h
  have h2 : (1 * 2 ^ k : Int) = ((2 ^ k : Nat) : Int) := by simp
  rw [h2]
  generalize 2 ^ k = x at *
  exact wrap_i64 ⟨by omega, by omega⟩
set_option maxHeartbeats 1000000 in
theorem cCheck_fn {k a b : Nat} (h : goodN k a b) (h4 : k ≠ 4) : Fn1 Tryz.prog 82 [pR k a b] [] (.lit (.int .i64 0)) [] := by
  refine fn1N_of pl82 (by kernel_rfl) Tryz.call82 Tryz.func82 rfl (by kernel_rfl) rfl [.tmp 2] (by kernel_rfl) fun Q hQ => ?_
  rcases h with ⟨rfl, h1, h2, h3, h5, h6⟩ | ⟨rfl, h2, h3, h5⟩ | ⟨rfl, h1, h2, h3, h5⟩ | ⟨rfl, _⟩
  · have g := amgood_fn (a := (a : Int))
    rw [decide_eq_true ⟨by omega, by omega⟩] at g
    have k1 := kind1_fn (a := (a : Int)) (w := (b : Int))
    have ln := len_fn (n := a + 1) (by omega)
    have ha1 : (a : Int) + 1 = ((a + 1 : Nat) : Int) := by omega
    have hs := shW (k := b) (by omega)
    have hp : 1 ≤ 2 ^ b := Nat.pow_pos (by decide)
    have hp2 : 2 ^ b ≤ 2 ^ 10 := Nat.pow_le_pow_right (by decide) h5
    have hb := bl_le_of (n := a + 1) (k := 13) (by omega)
    have hm : ((bl (a + 1) : Nat) : Int) * (((2 ^ b : Nat) : Int) - 1) = ((bl (a + 1) * (2 ^ b - 1) : Nat) : Int) := by
      rw [show (((2 ^ b : Nat) : Int) - 1) = ((2 ^ b - 1 : Nat) : Int) by omega]
      simp
    simp (maxSteps := 1000000) (disch := (first | omega | (simp only [lnA, List.length_map, List.length_range, true_and, and_true]; (try omega); done) | fail)) only [go_sem, Int.reduceEq, Int.reduceToNat, Nat.reduceAdd, Nat.reduceMul, Nat.reduceEqDiff, ↓reduceIte]
    refine callV0 (k1) rfl rfl ?_
    simp (maxSteps := 1000000) (disch := (first | omega | (simp only [lnA, List.length_map, List.length_range, true_and, and_true]; (try omega); done) | fail)) only [go_sem, Int.reduceEq, Int.reduceToNat, Nat.reduceAdd, Nat.reduceMul, Nat.reduceEqDiff, ↓reduceIte]
    refine callV0 (g) rfl rfl ?_
    simp (maxSteps := 1000000) (disch := (first | omega | (simp only [lnA, List.length_map, List.length_range, true_and, and_true]; (try omega); done) | fail)) only [go_sem, ha1, Int.reduceEq, Int.reduceToNat, Nat.reduceAdd, Nat.reduceMul, Nat.reduceEqDiff, ↓reduceIte]
    refine callV0 (ln) rfl rfl ?_
    generalize bl (a + 1) * (2 ^ b - 1) = m at *
    simp (maxSteps := 1000000) (disch := (first | omega | (simp only [lnA, List.length_map, List.length_range, true_and, and_true]; (try omega); done) | fail)) only [go_sem, hs, Int.toNat_natCast, hm, Int.reduceEq, Int.reduceToNat, Nat.reduceAdd, Nat.reduceMul, Nat.reduceEqDiff, ↓reduceIte]
    exact endW [] hQ
  · have g := afgood_fn (a := (a : Int))
    rw [decide_eq_true ⟨by omega, by omega⟩] at g
    have k1 := kind2_fn (a := (a : Int)) (w := (b : Int))
    simp (maxSteps := 1000000) (disch := (first | omega | (simp only [lnA, List.length_map, List.length_range, true_and, and_true]; (try omega); done) | fail)) only [go_sem, Int.reduceEq, Int.reduceToNat, Nat.reduceAdd, Nat.reduceMul, Nat.reduceEqDiff, ↓reduceIte]
    refine callV0 (k1) rfl rfl ?_
    simp (maxSteps := 1000000) (disch := (first | omega | (simp only [lnA, List.length_map, List.length_range, true_and, and_true]; (try omega); done) | fail)) only [go_sem, Int.reduceEq, Int.reduceToNat, Nat.reduceAdd, Nat.reduceMul, Nat.reduceEqDiff, ↓reduceIte]
    refine callV0 (g) rfl rfl ?_
    simp (maxSteps := 1000000) (disch := (first | omega | (simp only [lnA, List.length_map, List.length_range, true_and, and_true]; (try omega); done) | fail)) only [go_sem, Int.reduceEq, Int.reduceToNat, Nat.reduceAdd, Nat.reduceMul, Nat.reduceEqDiff, ↓reduceIte]
    exact endW [] hQ
  · have g := aygood_fn (a := (a : Int))
    rw [decide_eq_true ⟨by omega, by omega⟩] at g
    have k1 := kind3_fn (a := (a : Int)) (w := (b : Int))
    simp (maxSteps := 1000000) (disch := (first | omega | (simp only [lnA, List.length_map, List.length_range, true_and, and_true]; (try omega); done) | fail)) only [go_sem, Int.reduceEq, Int.reduceToNat, Nat.reduceAdd, Nat.reduceMul, Nat.reduceEqDiff, ↓reduceIte]
    refine callV0 (k1) rfl rfl ?_
    simp (maxSteps := 1000000) (disch := (first | omega | (simp only [lnA, List.length_map, List.length_range, true_and, and_true]; (try omega); done) | fail)) only [go_sem, Int.reduceEq, Int.reduceToNat, Nat.reduceAdd, Nat.reduceMul, Nat.reduceEqDiff, ↓reduceIte]
    refine callV0 (g) rfl rfl ?_
    simp (maxSteps := 1000000) (disch := (first | omega | (simp only [lnA, List.length_map, List.length_range, true_and, and_true]; (try omega); done) | fail)) only [go_sem, Int.reduceEq, Int.reduceToNat, Nat.reduceAdd, Nat.reduceMul, Nat.reduceEqDiff, ↓reduceIte]
    exact endW [] hQ
  · exact absurd rfl h4
theorem cTop_fn {k a b : Nat} (h : goodN k a b) (h4 : k ≠ 4) : Fn1 Tryz.prog 92 [pR k a b] [] (.lit (.int .i64 ((2 ^ b - 1 : Nat) : Int))) [] := by
  have c := cCheck_fn h h4
  have hb : b ≤ 10 := by rcases h with h | h | h | h <;> omega
  have hs := shW (k := b) (by omega)
  have hp : 1 ≤ 2 ^ b := Nat.pow_pos (by decide)
  have hp2 : 2 ^ b ≤ 2 ^ 10 := Nat.pow_le_pow_right (by decide) hb
  have he : (((2 ^ b : Nat) : Int) - 1) = ((2 ^ b - 1 : Nat) : Int) := by omega
  generalize 2 ^ b - 1 = m at *
  refine fn1N_of pl92 (by kernel_rfl) Tryz.call92 Tryz.func92 rfl (by kernel_rfl) rfl [.tmp 2] (by kernel_rfl) fun Q hQ => ?_
  simp (maxSteps := 1000000) (disch := (first | omega | (simp only [lnA, List.length_map, List.length_range, true_and, and_true]; (try omega); done) | fail)) only [go_sem, Int.reduceEq, Int.reduceToNat, Nat.reduceAdd, Nat.reduceMul, Nat.reduceEqDiff, ↓reduceIte]
  refine callV0 (c) rfl rfl ?_
  simp (maxSteps := 1000000) (disch := (first | omega | (simp only [lnA, List.length_map, List.length_range, true_and, and_true]; (try omega); done) | fail)) only [go_sem, hs, Int.toNat_natCast, he, Int.reduceEq, Int.reduceToNat, Nat.reduceAdd, Nat.reduceMul, Nat.reduceEqDiff, ↓reduceIte]
  exact endW [] hQ
theorem tCheck_fn {a b : Nat} (h1 : 1 ≤ a) (h2 : a ≤ 1023) (h3 : b ≤ 20) : Fn1 Tryz.prog 80 [.agg [.lit (.int .i64 (a : Int)), .lit (.int .i64 (b : Int))]] [] (.lit (.int .i64 0)) [] := by
  refine fn1N_of pl80 (by kernel_rfl) Tryz.call80 Tryz.func80 rfl (by kernel_rfl) rfl [.tmp 2] (by kernel_rfl) fun Q hQ => ?_
  simp (maxSteps := 1000000) (disch := (first | omega | (simp only [lnA, List.length_map, List.length_range, true_and, and_true]; (try omega); done) | fail)) only [go_sem, Int.reduceEq, Int.reduceToNat, Nat.reduceAdd, Nat.reduceMul, Nat.reduceEqDiff, ↓reduceIte]
  exact endW [] hQ
theorem tWell_fn {a b : Nat} {s : Nat × Nat × Bool} (h1 : 1 ≤ a) (h2 : a ≤ 1023) (h3 : b ≤ 20) (w1 : s.1 ≤ a) (w2 : s.2.1 ≤ b) (w3 : s.2.2 = true → s.2.1 = b) : Fn1 Tryz.prog 90 [.agg [.lit (.int .i64 (a : Int)), .lit (.int .i64 (b : Int))], sR s] [] (.lit (.bool true)) [] := by
  have c := tCheck_fn h1 h2 h3
  obtain ⟨K, T, F⟩ := s
  dsimp only at w1 w2 w3
  refine fn1N_of pl90 (by kernel_rfl) Tryz.call90 Tryz.func90 rfl (by kernel_rfl) rfl [.tmp 4] (by kernel_rfl) fun Q hQ => ?_
  cases F with
  | true =>
    have w4 := w3 rfl
    simp (maxSteps := 1000000) (disch := (first | omega | (simp only [lnA, List.length_map, List.length_range, true_and, and_true]; (try omega); done) | fail)) only [go_sem, Int.reduceEq, Int.reduceToNat, Nat.reduceAdd, Nat.reduceMul, Nat.reduceEqDiff, ↓reduceIte]
    refine callV0 (c) rfl rfl ?_
    simp (maxSteps := 1000000) (disch := (first | omega | (simp only [lnA, List.length_map, List.length_range, true_and, and_true]; (try omega); done) | fail)) only [go_sem, Int.reduceEq, Int.reduceToNat, Nat.reduceAdd, Nat.reduceMul, Nat.reduceEqDiff, ↓reduceIte]
    exact endW [] hQ
  | false =>
    simp (maxSteps := 1000000) (disch := (first | omega | (simp only [lnA, List.length_map, List.length_range, true_and, and_true]; (try omega); done) | fail)) only [go_sem, Int.reduceEq, Int.reduceToNat, Nat.reduceAdd, Nat.reduceMul, Nat.reduceEqDiff, ↓reduceIte]
    refine callV0 (c) rfl rfl ?_
    simp (maxSteps := 1000000) (disch := (first | omega | (simp only [lnA, List.length_map, List.length_range, true_and, and_true]; (try omega); done) | fail)) only [go_sem, Int.reduceEq, Int.reduceToNat, Nat.reduceAdd, Nat.reduceMul, Nat.reduceEqDiff, ↓reduceIte]
    exact endW [] hQ
theorem rthin_fn {k a b : Int} : Fn1 Tryz.prog 79 [.agg [.lit (.int .i64 k), .lit (.int .i64 a), .lit (.int .i64 b)]] [] (.agg [.lit (.int .i64 a), .lit (.int .i64 b)]) [] := by
  refine fn1N_of pl79 (by kernel_rfl) Tryz.call79 Tryz.func79 rfl (by kernel_rfl) rfl [.cell 2 154] (by kernel_rfl) fun Q hQ => ?_
  simp (maxSteps := 1000000) (disch := (first | omega | (simp only [lnA, List.length_map, List.length_range, true_and, and_true]; (try omega); done) | fail)) only [go_sem, Int.reduceEq, Int.reduceToNat, Nat.reduceAdd, Nat.reduceMul, Nat.reduceEqDiff, ↓reduceIte]
  exact endW [] hQ
theorem rchain_fn {k a b : Int} : Fn1 Tryz.prog 81 [.agg [.lit (.int .i64 k), .lit (.int .i64 a), .lit (.int .i64 b)]] [] (.agg [.lit (.int .i64 k), .lit (.int .i64 a), .lit (.int .i64 b)]) [] := by
  refine fn1N_of pl81 (by kernel_rfl) Tryz.call81 Tryz.func81 rfl (by kernel_rfl) rfl [.cell 2 157] (by kernel_rfl) fun Q hQ => ?_
  simp (maxSteps := 1000000) (disch := (first | omega | (simp only [lnA, List.length_map, List.length_range, true_and, and_true]; (try omega); done) | fail)) only [go_sem, Int.reduceEq, Int.reduceToNat, Nat.reduceAdd, Nat.reduceMul, Nat.reduceEqDiff, ↓reduceIte]
  exact endW [] hQ
theorem rthinned_fn {K T : Int} {F : Bool} : Fn1 Tryz.prog 91 [.agg [.lit (.int .i64 K), .lit (.int .i64 T), .lit (.bool F)]] [] (.agg [.lit (.int .i64 K), .lit (.int .i64 T), .lit (.bool F)]) [] := by
  refine fn1N_of pl91 (by kernel_rfl) Tryz.call91 Tryz.func91 rfl (by kernel_rfl) rfl [.cell 2 168] (by kernel_rfl) fun Q hQ => ?_
  simp (maxSteps := 1000000) (disch := (first | omega | (simp only [lnA, List.length_map, List.length_range, true_and, and_true]; (try omega); done) | fail)) only [go_sem, Int.reduceEq, Int.reduceToNat, Nat.reduceAdd, Nat.reduceMul, Nat.reduceEqDiff, ↓reduceIte]
  exact endW [] hQ
theorem rCheck_fn {k a b : Nat} (h : goodN k a b) : Fn1 Tryz.prog 60 [pR k a b] [] (.lit (.int .i64 0)) [] := by
  refine fn1N_of pl60 (by kernel_rfl) Tryz.call60 Tryz.func60 rfl (by kernel_rfl) rfl [.tmp 2] (by kernel_rfl) fun Q hQ => ?_
  by_cases h4 : k = 4
  · obtain ⟨h1, h2, h3⟩ : 1 ≤ a ∧ a ≤ 1023 ∧ b ≤ 20 := by rcases h with h | h | h | h <;> omega
    have c := tCheck_fn h1 h2 h3
    have t := rthin_fn (k := (k : Int)) (a := (a : Int)) (b := (b : Int))
    simp (maxSteps := 1000000) (disch := (first | omega | (simp only [lnA, List.length_map, List.length_range, true_and, and_true]; (try omega); done) | fail)) only [go_sem, Int.reduceEq, Int.reduceToNat, Nat.reduceAdd, Nat.reduceMul, Nat.reduceEqDiff, ↓reduceIte]
    refine callV0 (t) rfl rfl ?_
    simp (maxSteps := 1000000) (disch := (first | omega | (simp only [lnA, List.length_map, List.length_range, true_and, and_true]; (try omega); done) | fail)) only [go_sem, Int.reduceEq, Int.reduceToNat, Nat.reduceAdd, Nat.reduceMul, Nat.reduceEqDiff, ↓reduceIte]
    refine callV0 (c) rfl rfl ?_
    simp (maxSteps := 1000000) (disch := (first | omega | (simp only [lnA, List.length_map, List.length_range, true_and, and_true]; (try omega); done) | fail)) only [go_sem, Int.reduceEq, Int.reduceToNat, Nat.reduceAdd, Nat.reduceMul, Nat.reduceEqDiff, ↓reduceIte]
    exact endW [] hQ
  · have c := cCheck_fn h h4
    have t := rchain_fn (k := (k : Int)) (a := (a : Int)) (b := (b : Int))
    simp (maxSteps := 1000000) (disch := (first | omega | (simp only [lnA, List.length_map, List.length_range, true_and, and_true]; (try omega); done) | fail)) only [go_sem, Int.reduceEq, Int.reduceToNat, Nat.reduceAdd, Nat.reduceMul, Nat.reduceEqDiff, ↓reduceIte]
    refine callV0 (t) rfl rfl ?_
    simp (maxSteps := 1000000) (disch := (first | omega | (simp only [lnA, List.length_map, List.length_range, true_and, and_true]; (try omega); done) | fail)) only [go_sem, Int.reduceEq, Int.reduceToNat, Nat.reduceAdd, Nat.reduceMul, Nat.reduceEqDiff, ↓reduceIte]
    refine callV0 (c) rfl rfl ?_
    simp (maxSteps := 1000000) (disch := (first | omega | (simp only [lnA, List.length_map, List.length_range, true_and, and_true]; (try omega); done) | fail)) only [go_sem, Int.reduceEq, Int.reduceToNat, Nat.reduceAdd, Nat.reduceMul, Nat.reduceEqDiff, ↓reduceIte]
    exact endW [] hQ
set_option maxHeartbeats 1000000 in
theorem rWell_fn {k a b : Nat} {s : Nat × Nat × Bool} (h : goodN k a b) (w : wellN k a b s) : Fn1 Tryz.prog 74 [pR k a b, sR s] [] (.lit (.bool true)) [] := by
  have rc := rCheck_fn h
  refine fn1N_of pl74 (by kernel_rfl) Tryz.call74 Tryz.func74 rfl (by kernel_rfl) rfl [.tmp 4] (by kernel_rfl) fun Q hQ => ?_
  by_cases h4 : k = 4
  · obtain ⟨h1, h2, h3⟩ : 1 ≤ a ∧ a ≤ 1023 ∧ b ≤ 20 := by rcases h with h | h | h | h <;> omega
    unfold wellN at w
    rw [if_pos h4] at w
    have tw := tWell_fn h1 h2 h3 w.1 w.2.1 w.2.2
    have t := rthin_fn (k := (k : Int)) (a := (a : Int)) (b := (b : Int))
    have tt := rthinned_fn (K := (s.1 : Int)) (T := (s.2.1 : Int)) (F := s.2.2)
    simp (maxSteps := 1000000) (disch := (first | omega | (simp only [lnA, List.length_map, List.length_range, true_and, and_true]; (try omega); done) | fail)) only [go_sem, Int.reduceEq, Int.reduceToNat, Nat.reduceAdd, Nat.reduceMul, Nat.reduceEqDiff, ↓reduceIte]
    refine callV0 (rc) rfl rfl ?_
    simp (maxSteps := 1000000) (disch := (first | omega | (simp only [lnA, List.length_map, List.length_range, true_and, and_true]; (try omega); done) | fail)) only [go_sem, Int.reduceEq, Int.reduceToNat, Nat.reduceAdd, Nat.reduceMul, Nat.reduceEqDiff, ↓reduceIte]
    repeat (first | (refine callV0 (t) rfl rfl ?_) | (refine callV0 (tt) rfl rfl ?_) | (refine callV0 (tw) rfl rfl ?_) | (simp (maxSteps := 1000000) (disch := (first | omega | (simp only [lnA, List.length_map, List.length_range, true_and, and_true]; (try omega); done) | fail)) only [go_sem, Int.reduceEq, Int.reduceToNat, Nat.reduceAdd, Nat.reduceMul, Nat.reduceEqDiff, ↓reduceIte]))
    exact endW [] hQ
  · have ct := cTop_fn h h4
    have t := rchain_fn (k := (k : Int)) (a := (a : Int)) (b := (b : Int))
    unfold wellN at w
    rw [if_neg h4] at w
    obtain ⟨K, T, F⟩ := s
    obtain ⟨w1, w2, w3⟩ := w
    dsimp only at w1 w2 w3
    generalize 2 ^ b - 1 = m at *
    cases F with
    | true =>
      have w4 := w3 rfl
      simp (maxSteps := 1000000) (disch := (first | omega | (simp only [lnA, List.length_map, List.length_range, true_and, and_true]; (try omega); done) | fail)) only [go_sem, Int.reduceEq, Int.reduceToNat, Nat.reduceAdd, Nat.reduceMul, Nat.reduceEqDiff, ↓reduceIte]
      refine callV0 (rc) rfl rfl ?_
      simp (maxSteps := 1000000) (disch := (first | omega | (simp only [lnA, List.length_map, List.length_range, true_and, and_true]; (try omega); done) | fail)) only [go_sem, Int.reduceEq, Int.reduceToNat, Nat.reduceAdd, Nat.reduceMul, Nat.reduceEqDiff, ↓reduceIte]
      refine callV0 (t) rfl rfl ?_
      simp (maxSteps := 1000000) (disch := (first | omega | (simp only [lnA, List.length_map, List.length_range, true_and, and_true]; (try omega); done) | fail)) only [go_sem, Int.reduceEq, Int.reduceToNat, Nat.reduceAdd, Nat.reduceMul, Nat.reduceEqDiff, ↓reduceIte]
      refine callV0 (ct) rfl rfl ?_
      simp (maxSteps := 1000000) (disch := (first | omega | (simp only [lnA, List.length_map, List.length_range, true_and, and_true]; (try omega); done) | fail)) only [go_sem, Int.reduceEq, Int.reduceToNat, Nat.reduceAdd, Nat.reduceMul, Nat.reduceEqDiff, ↓reduceIte]
      exact endW [] hQ
    | false =>
      simp (maxSteps := 1000000) (disch := (first | omega | (simp only [lnA, List.length_map, List.length_range, true_and, and_true]; (try omega); done) | fail)) only [go_sem, Int.reduceEq, Int.reduceToNat, Nat.reduceAdd, Nat.reduceMul, Nat.reduceEqDiff, ↓reduceIte]
      refine callV0 (rc) rfl rfl ?_
      simp (maxSteps := 1000000) (disch := (first | omega | (simp only [lnA, List.length_map, List.length_range, true_and, and_true]; (try omega); done) | fail)) only [go_sem, Int.reduceEq, Int.reduceToNat, Nat.reduceAdd, Nat.reduceMul, Nat.reduceEqDiff, ↓reduceIte]
      refine callV0 (t) rfl rfl ?_
      simp (maxSteps := 1000000) (disch := (first | omega | (simp only [lnA, List.length_map, List.length_range, true_and, and_true]; (try omega); done) | fail)) only [go_sem, Int.reduceEq, Int.reduceToNat, Nat.reduceAdd, Nat.reduceMul, Nat.reduceEqDiff, ↓reduceIte]
      refine callV0 (ct) rfl rfl ?_
      simp (maxSteps := 1000000) (disch := (first | omega | (simp only [lnA, List.length_map, List.length_range, true_and, and_true]; (try omega); done) | fail)) only [go_sem, Int.reduceEq, Int.reduceToNat, Nat.reduceAdd, Nat.reduceMul, Nat.reduceEqDiff, ↓reduceIte]
      exact endW [] hQ
theorem rWrong_fn {k a b : Nat} {s : Nat × Nat × Bool} (h : goodN k a b) (w : wellN k a b s) : Fn1 Tryz.prog 54 [pR k a b, .row 3 [[.lit (.int .i64 (s.1 : Int)), .lit (.int .i64 (s.2.1 : Int)), .lit (.bool s.2.2)]]] [] (.lit (.int .i64 0)) [] := by
  have rc := rCheck_fn h
  have rw' := rWell_fn h w
  refine fn1N_of pl54 (by kernel_rfl) Tryz.call54 Tryz.func54 rfl (by kernel_rfl) rfl [.tmp 4] (by kernel_rfl) fun Q hQ => ?_
  simp (maxSteps := 1000000) (disch := (first | omega | (simp only [lnA, List.length_map, List.length_range, true_and, and_true]; (try omega); done) | fail)) only [go_sem, Int.reduceEq, Int.reduceToNat, Nat.reduceAdd, Nat.reduceMul, Nat.reduceEqDiff, ↓reduceIte]
  refine callV0 (rc) rfl rfl ?_
  simp (maxSteps := 1000000) (disch := (first | omega | (simp only [lnA, List.length_map, List.length_range, true_and, and_true]; (try omega); done) | fail)) only [go_sem, Int.reduceEq, Int.reduceToNat, Nat.reduceAdd, Nat.reduceMul, Nat.reduceEqDiff, ↓reduceIte]
  refine loopW (X := Nat) (st := fun i => ([(2, .ref 0 0 0 0), (13, .row 3 [[.lit (.int .i64 (s.1 : Int)), .lit (.int .i64 (s.2.1 : Int)), .lit (.bool s.2.2)]]), (14, .lit (.int .i64 1)), (15, .lit (.int .i64 (i : Int)))],
      [some (.cells [.lit (.int .i64 (k : Int)), .lit (.int .i64 (a : Int)), .lit (.int .i64 (b : Int))])]))
    (inv := fun i => i ≤ 1) (m := fun i => 1 - i) 0 [some 0] (Nat.zero_le _) ?_
  intro i hi
  by_cases hil : i < 1
  · obtain rfl : i = 0 := by omega
    simp (maxSteps := 1000000) (disch := (first | omega | (simp only [lnA, List.length_map, List.length_range, true_and, and_true]; (try omega); done) | fail)) only [go_sem, Int.reduceEq, Int.reduceToNat, Nat.reduceAdd, Nat.reduceMul, Nat.reduceEqDiff, ↓reduceIte]
    refine callV0 (rw') rfl rfl ?_
    simp (maxSteps := 1000000) (disch := (first | omega | (simp only [lnA, List.length_map, List.length_range, true_and, and_true]; (try omega); done) | fail)) only [go_sem, Int.reduceEq, Int.reduceToNat, Nat.reduceAdd, Nat.reduceMul, Nat.reduceEqDiff, ↓reduceIte]
    refine nextW 1 [some 0] (Nat.le_refl _) (by decide)
  · obtain rfl : i = 1 := by omega
    simp (maxSteps := 1000000) (disch := (first | omega | (simp only [lnA, List.length_map, List.length_range, true_and, and_true]; (try omega); done) | fail)) only [go_sem, Int.reduceEq, Int.reduceToNat, Nat.reduceAdd, Nat.reduceMul, Nat.reduceEqDiff, ↓reduceIte]
    exact endW [] hQ
def w1 (k a b : Nat) : Nat := if k = 4 then bl a else b
def w2 (k a b : Nat) : Nat := if k = 4 then bl b else 0
theorem rWidths_fn {k a b : Nat} (h : goodN k a b) : Fn1 Tryz.prog 55 [pR k a b] [] (.tup [.lit (.int .i64 (w1 k a b : Int)), .lit (.int .i64 (w2 k a b : Int))]) [] := by
  unfold w1 w2
  refine fn1N_of pl55 (by kernel_rfl) Tryz.call55 Tryz.func55 rfl (by kernel_rfl) rfl [.tmp 2, .tmp 3] (by kernel_rfl) fun Q hQ => ?_
  by_cases h4 : k = 4
  · obtain ⟨h1, h2, h3⟩ : 1 ≤ a ∧ a ≤ 1023 ∧ b ≤ 20 := by rcases h with h | h | h | h <;> omega
    rw [if_pos h4, if_pos h4] at hQ
    have l1 := len_fn (n := a) (by omega)
    have l2 := len_fn (n := b) (by omega)
    simp (maxSteps := 1000000) (disch := (first | omega | (simp only [lnA, List.length_map, List.length_range, true_and, and_true]; (try omega); done) | fail)) only [go_sem, Int.reduceEq, Int.reduceToNat, Nat.reduceAdd, Nat.reduceMul, Nat.reduceEqDiff, ↓reduceIte]
    repeat (first | (refine callV0 (l1) rfl rfl ?_) | (refine callV0 (l2) rfl rfl ?_) | (simp (maxSteps := 1000000) (disch := (first | omega | (simp only [lnA, List.length_map, List.length_range, true_and, and_true]; (try omega); done) | fail)) only [go_sem, Int.reduceEq, Int.reduceToNat, Nat.reduceAdd, Nat.reduceMul, Nat.reduceEqDiff, ↓reduceIte]))
    exact endW [] hQ
  · rw [if_neg h4, if_neg h4] at hQ
    simp (maxSteps := 1000000) (disch := (first | omega | (simp only [lnA, List.length_map, List.length_range, true_and, and_true]; (try omega); done) | fail)) only [go_sem, Int.reduceEq, Int.reduceToNat, Nat.reduceAdd, Nat.reduceMul, Nat.reduceEqDiff, ↓reduceIte]
    exact endW [] hQ
theorem w_le {k a b : Nat} (h : goodN k a b) : w1 k a b ≤ 10 ∧ w2 k a b ≤ 5 := by
  unfold w1 w2
  by_cases h4 : k = 4
  · obtain ⟨h1, h2, h3⟩ : 1 ≤ a ∧ a ≤ 1023 ∧ b ≤ 20 := by rcases h with h | h | h | h <;> omega
    rw [if_pos h4, if_pos h4]
    exact ⟨bl_le_of (by omega), bl_le_of (by omega)⟩
  · rw [if_neg h4, if_neg h4]
    exact ⟨by rcases h with h | h | h | h <;> omega, by decide⟩
theorem rBits_fn {k a b : Nat} (h : goodN k a b) : Fn1 Tryz.prog 62 [pR k a b] [] (.lit (.int .i64 ((w1 k a b + w2 k a b + 1 : Nat) : Int))) [] := by
  have rc := rCheck_fn h
  have ws := rWidths_fn h
  have hw := w_le h
  generalize w1 k a b = x at *
  generalize w2 k a b = y at *
  refine fn1N_of pl62 (by kernel_rfl) Tryz.call62 Tryz.func62 rfl (by kernel_rfl) rfl [.tmp 2] (by kernel_rfl) fun Q hQ => ?_
  simp (maxSteps := 1000000) (disch := (first | omega | (simp only [lnA, List.length_map, List.length_range, true_and, and_true]; (try omega); done) | fail)) only [go_sem, Int.reduceEq, Int.reduceToNat, Nat.reduceAdd, Nat.reduceMul, Nat.reduceEqDiff, ↓reduceIte]
  refine callV0 (rc) rfl rfl ?_
  simp (maxSteps := 1000000) (disch := (first | omega | (simp only [lnA, List.length_map, List.length_range, true_and, and_true]; (try omega); done) | fail)) only [go_sem, Int.reduceEq, Int.reduceToNat, Nat.reduceAdd, Nat.reduceMul, Nat.reduceEqDiff, ↓reduceIte]
  refine callV0 (ws) rfl rfl ?_
  simp (maxSteps := 1000000) (disch := (first | omega | (simp only [lnA, List.length_map, List.length_range, true_and, and_true]; (try omega); done) | fail)) only [go_sem, Int.reduceEq, Int.reduceToNat, Nat.reduceAdd, Nat.reduceMul, Nat.reduceEqDiff, ↓reduceIte]
  exact endW [] hQ
def rgB (k a b : Nat) (s : Nat × Nat × Bool) : List Bool := numBits s.1 (w1 k a b) ++ numBits s.2.1 (w2 k a b) ++ [s.2.2]
theorem rgB_len (k a b : Nat) (s : Nat × Nat × Bool) : (rgB k a b s).length = w1 k a b + w2 k a b + 1 := by
  unfold rgB
  rw [List.length_append, List.length_append, numBits_len, numBits_len]
  rfl
theorem well_lt {k a b : Nat} {s : Nat × Nat × Bool} (h : goodN k a b) (w : wellN k a b s) : s.1 < 2 ^ w1 k a b ∧ s.2.1 < 2 ^ w2 k a b := by
  unfold wellN at w
  unfold w1 w2
  by_cases h4 : k = 4
  · rw [if_pos h4] at w ⊢
    rw [if_pos h4]
    exact ⟨Nat.lt_of_le_of_lt w.1 (bl_lt a), Nat.lt_of_le_of_lt w.2.1 (bl_lt b)⟩
  · rw [if_neg h4] at w ⊢
    rw [if_neg h4]
    have hp : 1 ≤ 2 ^ b := Nat.pow_pos (by decide)
    exact ⟨by omega, by rw [w.1]; decide⟩
set_option maxHeartbeats 1000000 in
theorem rWrite_fn {k a b : Nat} {s : Nat × Nat × Bool} {L : List Bool} (h : goodN k a b) (w : wellN k a b s) (hL : L.length < 1099511600000) :
    Fn1 Tryz.prog 26 [pR k a b, .ref 0 0 0 0, sR s] [some (wrC 1 L), some (wrR L)] (.lit (.int .i64 0)) [some (wrC 2 (L ++ rgB k a b s)), none, some (wrR (L ++ rgB k a b s))] := by
  have ww := rWrong_fn h w
  have ws := rWidths_fn h
  have hw := w_le h
  have hlt := well_lt h w
  obtain ⟨K, T, F⟩ := s
  have e : L ++ rgB k a b (K, T, F) = L ++ numBits K (w1 k a b) ++ numBits T (w2 k a b) ++ [F] := by unfold rgB; simp
  rw [e]
  clear e w
  dsimp only at hlt ww
  generalize w1 k a b = x at *
  generalize w2 k a b = y at *
  have hpx : 2 ^ x ≤ 2 ^ 10 := Nat.pow_le_pow_right (by decide) hw.1
  have hpy : 2 ^ y ≤ 2 ^ 5 := Nat.pow_le_pow_right (by decide) hw.2
  have n1 := num_fn (L := L) (n := K) (m := (x : Int)) (by omega) (by omega) (by omega) (by omega) (by rw [Int.toNat_natCast]; exact hlt.1)
  have n2 := num_fn (L := L ++ numBits K x) (n := T) (m := (y : Int)) (by omega) (by rw [List.length_append, numBits_len]; omega) (by omega) (by omega) (by rw [Int.toNat_natCast]; exact hlt.2)
  have b1 := bit_fn (L := L ++ numBits K x ++ numBits T y) (x := F) (by rw [List.length_append, List.length_append, numBits_len, numBits_len]; omega)
  rw [Int.toNat_natCast] at n1 n2
  refine fn1N_of pl26 (by kernel_rfl) Tryz.call26 Tryz.func26 rfl (by kernel_rfl) rfl [.tmp 6] (by kernel_rfl) fun Q hQ => ?_
  simp (maxSteps := 1000000) (disch := (first | omega | (simp only [lnA, List.length_map, List.length_range, true_and, and_true]; (try omega); done) | fail)) only [go_sem, Int.reduceEq, Int.reduceToNat, Nat.reduceAdd, Nat.reduceMul, Nat.reduceEqDiff, ↓reduceIte]
  refine callW [] [4] (ww) ?_
  simp (maxSteps := 1000000) (disch := (first | omega | (simp only [lnA, List.length_map, List.length_range, true_and, and_true]; (try omega); done) | fail)) only [go_sem, Int.reduceEq, Int.reduceToNat, Nat.reduceAdd, Nat.reduceMul, Nat.reduceEqDiff, ↓reduceIte]
  refine callV0 (ws) rfl rfl ?_
  simp (maxSteps := 1000000) (disch := (first | omega | (simp only [lnA, List.length_map, List.length_range, true_and, and_true]; (try omega); done) | fail)) only [go_sem, Int.reduceEq, Int.reduceToNat, Nat.reduceAdd, Nat.reduceMul, Nat.reduceEqDiff, ↓reduceIte]
  refine callW [some 0, some 1] [] (n1) ?_
  simp (maxSteps := 1000000) (disch := (first | omega | (simp only [lnA, List.length_map, List.length_range, true_and, and_true]; (try omega); done) | fail)) only [go_sem, Int.reduceEq, Int.reduceToNat, Nat.reduceAdd, Nat.reduceMul, Nat.reduceEqDiff, ↓reduceIte]
  refine callW [some 0, some 5] [] (n2) ?_
  simp (maxSteps := 1000000) (disch := (first | omega | (simp only [lnA, List.length_map, List.length_range, true_and, and_true]; (try omega); done) | fail)) only [go_sem, Int.reduceEq, Int.reduceToNat, Nat.reduceAdd, Nat.reduceMul, Nat.reduceEqDiff, ↓reduceIte]
  refine callW [some 0, some 6] [] (b1) ?_
  simp (maxSteps := 1000000) (disch := (first | omega | (simp only [lnA, List.length_map, List.length_range, true_and, and_true]; (try omega); done) | fail)) only [go_sem, Int.reduceEq, Int.reduceToNat, Nat.reduceAdd, Nat.reduceMul, Nat.reduceEqDiff, ↓reduceIte]
  exact endW [some 0, some 1, some 7] hQ
end Go.Proofs.YteookgjmohokiaaGreat
