import Derived.Test.YtdohmppildfjhaaGreatBc
import Derived.Test.YtdohmppildfjhaaGreatHc
import Derived.Test.YtdohmppildfjhaaGreatBa
import Derived.Test.YtdohmppildfjhaaGreatGa
namespace Go.Proofs.YtdohmppildfjhaaGreat
open Go.Eng Go.Vx
set_option linter.unusedSimpArgs false
set_option linter.unusedVariables false
set_option maxRecDepth 100000
def smallG (k a w : Nat) : Prop := (k = 1 ∧ 1 ≤ a ∧ a ≤ 4 ∨ k = 2 ∧ a ≤ 1 ∨ k = 3 ∧ 1 ≤ a ∧ a ≤ 2) ∧ 1 ≤ w ∧ w ≤ 4
theorem smallG_good {k a w : Nat} (h : smallG k a w) : goodN k a w ∧ k ≠ 4 := by
 obtain ⟨h, h1, h2⟩ := h
 refine ⟨?_, by omega⟩
 unfold goodN
 rcases h with ⟨rfl, h3, h4⟩ | ⟨rfl, h4⟩ | ⟨rfl, h3, h4⟩
 ·
  refine .inl ⟨rfl, h3, by omega, h1, by omega, ?_⟩
  have hb := bl_le_of (n := a + 1) (k := 3) (by omega)
  have hp : 2 ^ w - 1 ≤ 15 := by
   have : 2 ^ w ≤ 2 ^ 4 := Nat.pow_le_pow_right (by decide) h2
   omega
  have := Nat.mul_le_mul hb hp
  omega
 ·
  exact .inr (.inl ⟨rfl, by omega, h1, by omega⟩)
 ·
  exact .inr (.inr (.inl ⟨rfl, h3, by omega, h1, by omega⟩))
def quo (p q : Nat) : Rat := (((p : Nat) : Int) : Rat) / (((q : Nat) : Int) : Rat)
def chX (k a K : Nat) : Rat := if k = 1 then quo a (a + 1) ^ K else if k = 2 then hf (K / 2 ^ a) else hf (plAt a K).2.1
def vlX (k a K : Nat) : Rat := if k = 1 then (((a : Nat) : Int) : Rat) * (quo (a + 1) a ^ K - 1) else if k = 2 then ((((2 ^ a + K % 2 ^ a) * 2 ^ (K / 2 ^ a) - 2 ^ a : Nat) : Int) : Rat) else (((plAt a K).2.2.1 : Nat) : Int)
theorem gmwrong_fn {a k : Int} (ha : 1 ≤ a) (ha2 : a ≤ 4096) (hk : 0 ≤ k) (hk2 : k ≤ 1023) : Fn1 Tryz.prog 164 [.lit (.int .i64 a), .row 1 [[.lit (.int .i64 k)]]] [] (.lit (.int .i64 0)) [] := by
 have g := mgood_fn (a := a)
 rw [decide_eq_true ⟨ha, ha2⟩] at g
 refine fn1N_of pl164 (by kernel_rfl) Tryz.call164 Tryz.func164 rfl (by kernel_rfl) rfl [.tmp 4] (by kernel_rfl) fun Q hQ => ?_
 refine runW ?_
 refine callV0 (g) rfl rfl ?_
 refine runW ?_
 refine loopW (X := Nat) (st := fun i => ([(10, .row 1 [[.lit (.int .i64 k)]]), (11, .lit (.int .i64 1)), (12, .lit (.int .i64 (i : Int)))], [])) (inv := fun i => i = 0 ∨ i = 1) (m := fun i => 1 - i) 0 [] (.inl rfl) ?_
 rintro i (rfl | rfl)
 ·
  refine runW ?_
  refine nextW 1 [] (.inr rfl) (by omega)
 ·
  refine runW ?_
  exact endW [] hQ
theorem gfwrong_fn {a : Nat} {k : Int} (ha : a ≤ 8) (hk : 0 ≤ k) (hk2 : k ≤ 1023) : Fn1 Tryz.prog 176 [.lit (.int .i64 (a : Int)), .row 1 [[.lit (.int .i64 k)]]] [] (.lit (.int .i64 0)) [] := by
 have g := fgood_fn (a := (a : Int))
 rw [decide_eq_true ⟨by omega, by omega⟩] at g
 refine fn1N_of pl176 (by kernel_rfl) Tryz.call176 Tryz.func176 rfl (by kernel_rfl) rfl [.tmp 4] (by kernel_rfl) fun Q hQ => ?_
 refine runW ?_
 refine callV0 (g) rfl rfl ?_
 refine runW ?_
 refine loopW (X := Nat) (st := fun i => ([(10, .row 1 [[.lit (.int .i64 k)]]), (11, .lit (.int .i64 1)), (12, .lit (.int .i64 (i : Int)))], [])) (inv := fun i => i = 0 ∨ i = 1) (m := fun i => 1 - i) 0 [] (.inl rfl) ?_
 rintro i (rfl | rfl)
 ·
  refine runW ?_
  refine nextW 1 [] (.inr rfl) (by omega)
 ·
  refine runW ?_
  exact endW [] hQ
theorem gfparts_fn {a K : Nat} (ha : a ≤ 1) (hK : K ≤ 15) : Fn1 Tryz.prog 177 [.lit (.int .i64 (a : Int)), .lit (.int .i64 (K : Int))] [] (.tup [.lit (.int .i64 ((K / 2 ^ a : Nat) : Int)), .lit (.int .i64 ((K % 2 ^ a : Nat) : Int))]) [] := by
 have key : ∀ a ∈ List.range 2, ∀ K ∈ List.range 16, bitK BinOp.and IntKind.i64 (K : Int) (IntKind.i64.wrap (IntKind.i64.wrap (1 * 2 ^ a) - 1)) = ((K % 2 ^ a : Nat) : Int) := by decide +kernel
 have hk := key a (List.mem_range.2 (by omega)) K (List.mem_range.2 (by omega))
 rw [← hk, show ((K / 2 ^ a : Nat) : Int) = (K : Int) / 2 ^ a by simp]
 refine fn1N_of pl177 (by kernel_rfl) Tryz.call177 Tryz.func177 rfl (by kernel_rfl) rfl [.tmp 4, .tmp 5] (by kernel_rfl) fun Q hQ => ?_
 refine runW ?_
 exact endW [] hQ
theorem gcat_fn {k a w K : Nat} (hs : smallG k a w) (hK : K ≤ 2 ^ w - 1) : Fn1 Tryz.prog 63 [pR k a w, .row 1 [[.lit (.int .i64 (K : Int))]]] [] (.lit (.int .i64 0)) [] := by
 obtain ⟨hg, h4⟩ := smallG_good hs
 have c := cCheck_fn hg h4
 have t := cTop_fn hg h4
 generalize 2 ^ w - 1 = m at *
 refine fn1N_of pl63 (by kernel_rfl) Tryz.call63 Tryz.func63 rfl (by kernel_rfl) rfl [.tmp 4] (by kernel_rfl) fun Q hQ => ?_
 refine runW ?_
 refine callV0 (c) rfl rfl ?_
 refine runW ?_
 refine loopW (X := Nat) (st := fun i => ([(2, .ref 0 0 0 0), (13, .row 1 [[.lit (.int .i64 (K : Int))]]), (14, .lit (.int .i64 1)), (15, .lit (.int .i64 (i : Int)))], [some (.cells [.lit (.int .i64 (k : Int)), .lit (.int .i64 (a : Int)), .lit (.int .i64 (w : Int))])])) (inv := fun i => i = 0 ∨ i = 1) (m := fun i => 1 - i) 0 [some 0] (.inl rfl) ?_
 rintro i (rfl | rfl)
 ·
  refine runW ?_
  refine callV0 (t) rfl rfl ?_
  refine runW ?_
  refine nextW 1 [some 0] (.inr rfl) (by omega)
 ·
  refine runW ?_
  exact endW [] hQ
theorem RS_quo {p q : Nat} (hp : p < 18446744073709551616) (hq : q < 18446744073709551616) : RS 2 (quo p q) := RS_div (by decide) (RS_small (by omega)) (RS_small (by omega))
theorem gmchance_fn {a K : Nat} (ha : 1 ≤ a) (ha2 : a ≤ 4) (hK : K ≤ 15) : Fn1 Tryz.prog 161 [.lit (.int .i64 (a : Int)), .lit (.int .i64 (K : Int))] [] (.tup [RV (quo a (a + 1) ^ K), .lit (.int .i64 0)]) [] := by
 have g := gmwrong_fn (a := (a : Int)) (k := (K : Int)) (by omega) (by omega) (by omega) (by omega)
 have mk := rmake_fn (p := (a : Int)) (q := ((a + 1 : Nat) : Int)) (by omega) (by omega) (by omega) (by omega) (by omega)
 obtain ⟨r, e, pw, -, h2, -⟩ := rpow_ex (x := quo a (a + 1)) (RS_quo (by omega) (by omega)) (n := (K : Int)) (by omega) (by omega)
 obtain ⟨rfl, rfl⟩ := h2 K rfl (by omega)
 rw [show (((a : Int) : Rat) / (((a + 1 : Nat) : Int) : Rat)) = quo a (a + 1) from rfl] at mk
 have e1 : (a : Int) + 1 = ((a + 1 : Nat) : Int) := by omega
 generalize quo a (a + 1) ^ K = r at *
 generalize quo a (a + 1) = x at *
 refine fn1N_of pl161 (by kernel_rfl) Tryz.call161 Tryz.func161 rfl (by kernel_rfl) rfl [.cell 4 41, .tmp 5] (by kernel_rfl) fun Q hQ => ?_
 refine runW ?_
 refine callW [] [1] (g) ?_
 simp (maxSteps := 1000000) (disch := (first | omega | (simp only [lnA, List.length_map, List.length_range, true_and, and_true]; (try omega); done) | fail)) only [go_sem, e1, Int.reduceEq, Int.reduceToNat, Nat.reduceAdd, Nat.reduceMul, Nat.reduceEqDiff, ↓reduceIte]
 refine callV0 (mk) rfl rfl ?_
 refine runW ?_
 refine callV0 (pw) rfl rfl ?_
 refine runW ?_
 exact endW [] hQ
theorem gmvalue_fn {a K : Nat} (ha : 1 ≤ a) (ha2 : a ≤ 4) (hK : K ≤ 15) : Fn1 Tryz.prog 163 [.lit (.int .i64 (a : Int)), .lit (.int .i64 (K : Int))] [] (.tup [RV ((((a : Nat) : Int) : Rat) * (quo (a + 1) a ^ K - 1)), .lit (.int .i64 0)]) [] := by
 have g := gmwrong_fn (a := (a : Int)) (k := (K : Int)) (by omega) (by omega) (by omega) (by omega)
 have mk := rmake_fn (p := ((a + 1 : Nat) : Int)) (q := (a : Int)) (by omega) (by omega) (by omega) (by omega) (by omega)
 obtain ⟨r, e, pw, -, h2, hr⟩ := rpow_ex (x := quo (a + 1) a) (RS_quo (by omega) (by omega)) (n := (K : Int)) (by omega) (by omega)
 obtain ⟨rfl, rfl⟩ := h2 K rfl (by omega)
 rw [show ((((a + 1 : Nat) : Int) : Rat) / ((a : Int) : Rat)) = quo (a + 1) a from rfl] at mk
 have e1 : (a : Int) + 1 = ((a + 1 : Nat) : Int) := by omega
 have o1 := rof_fn (n := (a : Int)) (by omega) (by omega)
 have o2 := rof1_fn
 have su := rsub_fn (hr.mono (show 129 ≤ 400000 by decide)) (RS_one.mono (show 1 ≤ 400000 by decide))
 have sa : RS 1 (((a : Nat) : Int) : Rat) := RS_small (by omega)
 have mu := rmul_fn (sa.mono (show 1 ≤ 400000 by decide)) ((RS_sub hr RS_one).mono (show _ ≤ 400000 by decide))
 generalize (((a : Nat) : Int) : Rat) * (quo (a + 1) a ^ K - 1) = m at *
 generalize quo (a + 1) a ^ K - 1 = s at *
 generalize quo (a + 1) a ^ K = r at *
 generalize quo (a + 1) a = x at *
 generalize (((a : Nat) : Int) : Rat) = ra at *
 generalize (1 : Rat) = one at *
 refine fn1N_of pl163 (by kernel_rfl) Tryz.call163 Tryz.func163 rfl (by kernel_rfl) rfl [.cell 4 41, .tmp 5] (by kernel_rfl) fun Q hQ => ?_
 refine runW ?_
 refine callW [] [1] (g) ?_
 simp (maxSteps := 1000000) (disch := (first | omega | (simp only [lnA, List.length_map, List.length_range, true_and, and_true]; (try omega); done) | fail)) only [go_sem, e1, Int.reduceEq, Int.reduceToNat, Nat.reduceAdd, Nat.reduceMul, Nat.reduceEqDiff, ↓reduceIte]
 refine callV0 (mk) rfl rfl ?_
 refine runW ?_
 refine callV0 (pw) rfl rfl ?_
 repeat (first | (refine callV0 (o1) rfl rfl ?_) | (refine callV0 (o2) rfl rfl ?_) | (refine callV0 (su) rfl rfl ?_) | (refine callV0 (mu) rfl rfl ?_) | (refine runW ?_))
 exact endW [] hQ
end Go.Proofs.YtdohmppildfjhaaGreat
