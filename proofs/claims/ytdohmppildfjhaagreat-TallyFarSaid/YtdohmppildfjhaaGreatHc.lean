import Derived.Test.YtdohmppildfjhaaGreatFa
namespace Go.Proofs.YtdohmppildfjhaaGreat
open Go.Eng Go.Vx
set_option linter.unusedSimpArgs false
set_option linter.unusedVariables false
set_option maxRecDepth 100000
def pR (k a b : Nat) : V := .agg [.lit (.int .i64 (k : Int)), .lit (.int .i64 (a : Int)), .lit (.int .i64 (b : Int))]
def sR (s : Nat × Nat × Bool) : V := .agg [.lit (.int .i64 (s.1 : Int)), .lit (.int .i64 (s.2.1 : Int)), .lit (.bool s.2.2)]
attribute [go_sem] pR sR
def goodN (k a b : Nat) : Prop := (k = 1 ∧ 1 ≤ a ∧ a ≤ 4096 ∧ 1 ≤ b ∧ b ≤ 10 ∧ bl (a + 1) * (2 ^ b - 1) ≤ 8192) ∨ (k = 2 ∧ a ≤ 8 ∧ 1 ≤ b ∧ b ≤ 10) ∨ (k = 3 ∧ 1 ≤ a ∧ a ≤ 5 ∧ 1 ≤ b ∧ b ≤ 10) ∨ (k = 4 ∧ 1 ≤ a ∧ a ≤ 1023 ∧ b ≤ 20)
def wellN (k a b : Nat) (s : Nat × Nat × Bool) : Prop := if k = 4 then s.1 ≤ a ∧ s.2.1 ≤ b ∧ (s.2.2 = true → s.2.1 = b) else s.2.1 = 0 ∧ s.1 ≤ 2 ^ b - 1 ∧ (s.2.2 = true → s.1 = 2 ^ b - 1)
theorem shW {k : Nat} (h : k ≤ 32) : IntKind.i64.wrap (1 * 2 ^ k) = ((2 ^ k : Nat) : Int) := by
 have h1 : 2 ^ k ≤ 2 ^ 32 := Nat.pow_le_pow_right (by decide) h
 have h2 : (1 * 2 ^ k : Int) = ((2 ^ k : Nat) : Int) := by simp
 rw [h2]
 generalize 2 ^ k = x at *
 exact wrap_i64 ⟨by omega, by omega⟩
set_option maxHeartbeats 1000000 in
theorem cCheck_fn {k a b : Nat} (h : goodN k a b) (h4 : k ≠ 4) : Fn1 Tryz.prog 28 [pR k a b] [] (.lit (.int .i64 0)) [] := by
 refine fn1N_of pl28 (by kernel_rfl) Tryz.call28 Tryz.func28 rfl (by kernel_rfl) rfl [.tmp 2] (by kernel_rfl) fun Q hQ => ?_
 rcases h with ⟨rfl, h1, h2, h3, h5, h6⟩ | ⟨rfl, h2, h3, h5⟩ | ⟨rfl, h1, h2, h3, h5⟩ | ⟨rfl, _⟩
 ·
  have g := amgood_fn (a := (a : Int))
  rw [decide_eq_true ⟨by omega, by omega⟩] at g
  have k1 := kind1_fn (a := (a : Int)) (w := (b : Int))
  have ln := len_fn (n := a + 1) (by omega)
  have ha1 : (a : Int) + 1 = ((a + 1 : Nat) : Int) := by omega
  have hs := shW (k := b) (by omega)
  have hp : 1 ≤ 2 ^ b := Nat.pow_pos (by decide)
  have hp2 : 2 ^ b ≤ 2 ^ 10 := Nat.pow_le_pow_right (by decide) h5
  have hb := bl_le_of (n := a + 1) (k := 13) (by omega)
  have hm : ((bl (a + 1) : Nat) : Int) * (((2 ^ b : Nat) : Int) - 1) = ((bl (a + 1) * (2 ^ b - 1) : Nat) : Int) := by
   rw [show (((2 ^ b : Nat) : Int) - 1) = ((2 ^ b - 1 : Nat) : Int) by omega]
   simp
  refine runW ?_
  refine callV0 (k1) rfl rfl ?_
  refine runW ?_
  refine callV0 (g) rfl rfl ?_
  simp (maxSteps := 1000000) (disch := (first | omega | (simp only [lnA, List.length_map, List.length_range, true_and, and_true]; (try omega); done) | fail)) only [go_sem, ha1, Int.reduceEq, Int.reduceToNat, Nat.reduceAdd, Nat.reduceMul, Nat.reduceEqDiff, ↓reduceIte]
  refine callV0 (ln) rfl rfl ?_
  generalize bl (a + 1) * (2 ^ b - 1) = m at *
  simp (maxSteps := 1000000) (disch := (first | omega | (simp only [lnA, List.length_map, List.length_range, true_and, and_true]; (try omega); done) | fail)) only [go_sem, hs, Int.toNat_natCast, hm, Int.reduceEq, Int.reduceToNat, Nat.reduceAdd, Nat.reduceMul, Nat.reduceEqDiff, ↓reduceIte]
  exact endW [] hQ
 ·
  have g := afgood_fn (a := (a : Int))
  rw [decide_eq_true ⟨by omega, by omega⟩] at g
  have k1 := kind2_fn (a := (a : Int)) (w := (b : Int))
  refine runW ?_
  refine callV0 (k1) rfl rfl ?_
  refine runW ?_
  refine callV0 (g) rfl rfl ?_
  refine runW ?_
  exact endW [] hQ
 ·
  have g := aygood_fn (a := (a : Int))
  rw [decide_eq_true ⟨by omega, by omega⟩] at g
  have k1 := kind3_fn (a := (a : Int)) (w := (b : Int))
  refine runW ?_
  refine callV0 (k1) rfl rfl ?_
  refine runW ?_
  refine callV0 (g) rfl rfl ?_
  refine runW ?_
  exact endW [] hQ
 ·
  exact absurd rfl h4
theorem cTop_fn {k a b : Nat} (h : goodN k a b) (h4 : k ≠ 4) : Fn1 Tryz.prog 29 [pR k a b] [] (.lit (.int .i64 ((2 ^ b - 1 : Nat) : Int))) [] := by
 have c := cCheck_fn h h4
 have hb : b ≤ 10 := by rcases h with h | h | h | h <;> omega
 have hs := shW (k := b) (by omega)
 have hp : 1 ≤ 2 ^ b := Nat.pow_pos (by decide)
 have hp2 : 2 ^ b ≤ 2 ^ 10 := Nat.pow_le_pow_right (by decide) hb
 have he : (((2 ^ b : Nat) : Int) - 1) = ((2 ^ b - 1 : Nat) : Int) := by omega
 generalize 2 ^ b - 1 = m at *
 refine fn1N_of pl29 (by kernel_rfl) Tryz.call29 Tryz.func29 rfl (by kernel_rfl) rfl [.tmp 2] (by kernel_rfl) fun Q hQ => ?_
 refine runW ?_
 refine callV0 (c) rfl rfl ?_
 simp (maxSteps := 1000000) (disch := (first | omega | (simp only [lnA, List.length_map, List.length_range, true_and, and_true]; (try omega); done) | fail)) only [go_sem, hs, Int.toNat_natCast, he, Int.reduceEq, Int.reduceToNat, Nat.reduceAdd, Nat.reduceMul, Nat.reduceEqDiff, ↓reduceIte]
 exact endW [] hQ
theorem tCheck_fn {a b : Nat} (h1 : 1 ≤ a) (h2 : a ≤ 1023) (h3 : b ≤ 20) : Fn1 Tryz.prog 84 [.agg [.lit (.int .i64 (a : Int)), .lit (.int .i64 (b : Int))]] [] (.lit (.int .i64 0)) [] := by
 refine fn1N_of pl84 (by kernel_rfl) Tryz.call84 Tryz.func84 rfl (by kernel_rfl) rfl [.tmp 2] (by kernel_rfl) fun Q hQ => ?_
 refine runW ?_
 exact endW [] hQ
theorem tWell_fn {a b : Nat} {s : Nat × Nat × Bool} (h1 : 1 ≤ a) (h2 : a ≤ 1023) (h3 : b ≤ 20) (w1 : s.1 ≤ a) (w2 : s.2.1 ≤ b) (w3 : s.2.2 = true → s.2.1 = b) : Fn1 Tryz.prog 86 [.agg [.lit (.int .i64 (a : Int)), .lit (.int .i64 (b : Int))], sR s] [] (.lit (.bool true)) [] := by
 have c := tCheck_fn h1 h2 h3
 obtain ⟨K, T, F⟩ := s
 dsimp only at w1 w2 w3
 refine fn1N_of pl86 (by kernel_rfl) Tryz.call86 Tryz.func86 rfl (by kernel_rfl) rfl [.tmp 4] (by kernel_rfl) fun Q hQ => ?_
 cases F with
 | true =>
  have w4 := w3 rfl
  refine runW ?_
  refine callV0 (c) rfl rfl ?_
  refine runW ?_
  exact endW [] hQ
 | false =>
  refine runW ?_
  refine callV0 (c) rfl rfl ?_
  refine runW ?_
  exact endW [] hQ
theorem rthin_fn {k a b : Int} : Fn1 Tryz.prog 22 [.agg [.lit (.int .i64 k), .lit (.int .i64 a), .lit (.int .i64 b)]] [] (.agg [.lit (.int .i64 a), .lit (.int .i64 b)]) [] := by
 refine fn1N_of pl22 (by kernel_rfl) Tryz.call22 Tryz.func22 rfl (by kernel_rfl) rfl [.cell 2 62] (by kernel_rfl) fun Q hQ => ?_
 refine runW ?_
 exact endW [] hQ
theorem rchain_fn {k a b : Int} : Fn1 Tryz.prog 26 [.agg [.lit (.int .i64 k), .lit (.int .i64 a), .lit (.int .i64 b)]] [] (.agg [.lit (.int .i64 k), .lit (.int .i64 a), .lit (.int .i64 b)]) [] := by
 refine fn1N_of pl26 (by kernel_rfl) Tryz.call26 Tryz.func26 rfl (by kernel_rfl) rfl [.cell 2 70] (by kernel_rfl) fun Q hQ => ?_
 refine runW ?_
 exact endW [] hQ
theorem rthinned_fn {K T : Int} {F : Bool} : Fn1 Tryz.prog 24 [.agg [.lit (.int .i64 K), .lit (.int .i64 T), .lit (.bool F)]] [] (.agg [.lit (.int .i64 K), .lit (.int .i64 T), .lit (.bool F)]) [] := by
 refine fn1N_of pl24 (by kernel_rfl) Tryz.call24 Tryz.func24 rfl (by kernel_rfl) rfl [.cell 2 66] (by kernel_rfl) fun Q hQ => ?_
 refine runW ?_
 exact endW [] hQ
theorem rCheck_fn {k a b : Nat} (h : goodN k a b) : Fn1 Tryz.prog 46 [pR k a b] [] (.lit (.int .i64 0)) [] := by
 refine fn1N_of pl46 (by kernel_rfl) Tryz.call46 Tryz.func46 rfl (by kernel_rfl) rfl [.tmp 2] (by kernel_rfl) fun Q hQ => ?_
 by_cases h4 : k = 4
 ·
  obtain ⟨h1, h2, h3⟩ : 1 ≤ a ∧ a ≤ 1023 ∧ b ≤ 20 := by rcases h with h | h | h | h <;> omega
  have c := tCheck_fn h1 h2 h3
  have t := rthin_fn (k := (k : Int)) (a := (a : Int)) (b := (b : Int))
  refine runW ?_
  refine callV0 (t) rfl rfl ?_
  refine runW ?_
  refine callV0 (c) rfl rfl ?_
  refine runW ?_
  exact endW [] hQ
 ·
  have c := cCheck_fn h h4
  have t := rchain_fn (k := (k : Int)) (a := (a : Int)) (b := (b : Int))
  refine runW ?_
  refine callV0 (t) rfl rfl ?_
  refine runW ?_
  refine callV0 (c) rfl rfl ?_
  refine runW ?_
  exact endW [] hQ
set_option maxHeartbeats 1000000 in
theorem rWell_fn {k a b : Nat} {s : Nat × Nat × Bool} (h : goodN k a b) (w : wellN k a b s) : Fn1 Tryz.prog 49 [pR k a b, sR s] [] (.lit (.bool true)) [] := by
 have rc := rCheck_fn h
 refine fn1N_of pl49 (by kernel_rfl) Tryz.call49 Tryz.func49 rfl (by kernel_rfl) rfl [.tmp 4] (by kernel_rfl) fun Q hQ => ?_
 by_cases h4 : k = 4
 ·
  obtain ⟨h1, h2, h3⟩ : 1 ≤ a ∧ a ≤ 1023 ∧ b ≤ 20 := by rcases h with h | h | h | h <;> omega
  unfold wellN at w
  rw [if_pos h4] at w
  have tw := tWell_fn h1 h2 h3 w.1 w.2.1 w.2.2
  have t := rthin_fn (k := (k : Int)) (a := (a : Int)) (b := (b : Int))
  have tt := rthinned_fn (K := (s.1 : Int)) (T := (s.2.1 : Int)) (F := s.2.2)
  refine runW ?_
  refine callV0 (rc) rfl rfl ?_
  refine runW ?_
  repeat (first | (refine callV0 (t) rfl rfl ?_) | (refine callV0 (tt) rfl rfl ?_) | (refine callV0 (tw) rfl rfl ?_) | (refine runW ?_))
  exact endW [] hQ
 ·
  have ct := cTop_fn h h4
  have t := rchain_fn (k := (k : Int)) (a := (a : Int)) (b := (b : Int))
  unfold wellN at w
  rw [if_neg h4] at w
  obtain ⟨K, T, F⟩ := s
  obtain ⟨w1, w2, w3⟩ := w
  dsimp only at w1 w2 w3
  generalize 2 ^ b - 1 = m at *
  cases F with
  | true =>
   have w4 := w3 rfl
   refine runW ?_
   refine callV0 (rc) rfl rfl ?_
   refine runW ?_
   refine callV0 (t) rfl rfl ?_
   refine runW ?_
   refine callV0 (ct) rfl rfl ?_
   refine runW ?_
   exact endW [] hQ
  | false =>
   refine runW ?_
   refine callV0 (rc) rfl rfl ?_
   refine runW ?_
   refine callV0 (t) rfl rfl ?_
   refine runW ?_
   refine callV0 (ct) rfl rfl ?_
   refine runW ?_
   exact endW [] hQ
theorem rWrong_fn {k a b : Nat} {s : Nat × Nat × Bool} (h : goodN k a b) (w : wellN k a b s) : Fn1 Tryz.prog 21 [pR k a b, .row 3 [[.lit (.int .i64 (s.1 : Int)), .lit (.int .i64 (s.2.1 : Int)), .lit (.bool s.2.2)]]] [] (.lit (.int .i64 0)) [] := by
 have rc := rCheck_fn h
 have rw' := rWell_fn h w
 refine fn1N_of pl21 (by kernel_rfl) Tryz.call21 Tryz.func21 rfl (by kernel_rfl) rfl [.tmp 4] (by kernel_rfl) fun Q hQ => ?_
 refine runW ?_
 refine callV0 (rc) rfl rfl ?_
 refine runW ?_
 refine loopW (X := Nat) (st := fun i => ([(2, .ref 0 0 0 0), (13, .row 3 [[.lit (.int .i64 (s.1 : Int)), .lit (.int .i64 (s.2.1 : Int)), .lit (.bool s.2.2)]]), (14, .lit (.int .i64 1)), (15, .lit (.int .i64 (i : Int)))],
   [some (.cells [.lit (.int .i64 (k : Int)), .lit (.int .i64 (a : Int)), .lit (.int .i64 (b : Int))])]))
  (inv := fun i => i ≤ 1) (m := fun i => 1 - i) 0 [some 0] (Nat.zero_le _) ?_
 intro i hi
 by_cases hil : i < 1
 ·
  obtain rfl : i = 0 := by omega
  refine runW ?_
  refine callV0 (rw') rfl rfl ?_
  refine runW ?_
  refine nextW 1 [some 0] (Nat.le_refl _) (by decide)
 ·
  obtain rfl : i = 1 := by omega
  refine runW ?_
  exact endW [] hQ
def w1 (k a b : Nat) : Nat := if k = 4 then bl a else b
def w2 (k a b : Nat) : Nat := if k = 4 then bl b else 0
def rgB (k a b : Nat) (s : Nat × Nat × Bool) : List Bool := numBits s.1 (w1 k a b) ++ numBits s.2.1 (w2 k a b) ++ [s.2.2]
end Go.Proofs.YtdohmppildfjhaaGreat
