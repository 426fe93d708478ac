import Derived.Test.YtpkfddfkacijoaaDoorAi
import Derived.Test.YtpkfddfkacijoaaDoorAg
import Derived.Test.YtpkfddfkacijoaaDoorAd
namespace Go.Proofs.YtpkfddfkacijoaaDoor
open Go.Eng Go.Vx
set_option linter.unusedSimpArgs false
set_option linter.unusedVariables false
set_option maxRecDepth 100000
theorem rcmpG_le {x y : Rat} (hx : RS 400000 x) (hy : RS 400000 y) (h : x ≤ y) : ∃ c : Int, c ≤ 0 ∧ Fn1 Tryd.prog 18 [RV x, RV y] [] (.lit (.int .i64 c)) [] := by
  refine ⟨cmpQ x y, ?_, rcmp_fn hx hy⟩
  unfold cmpQ
  split
  · decide
  · rw [if_neg (Rat.not_lt.2 h)]
    decide
theorem value22_fn {K C : Int} {P n r : Nat} (h : goodA K P C) (hn : n ≤ 1048576) (hr : r ≤ 1048576) : Fn1 Tryd.prog 17 [.agg [.lit (.int .i64 K), .lit (.int .i64 (P : Int)), .lit (.int .i64 C)], .lit (.int .i64 (n : Int)), .lit (.int .i64 (r : Int))] []
    (RV (estV K P n (0, r))) [] := by
  unfold estV
  dsimp only
  have hP : P ≤ 8 := by obtain ⟨h, _⟩ := h; omega
  rcases Nat.eq_zero_or_pos n with h0 | h0
  · subst h0
    have e : (((0 : Nat) : Int) : Rat) * dGe K P r = ((0 : Int) : Rat) := by
      rw [show (((0 : Nat) : Int) : Rat) = 0 from rfl, show ((0 : Int) : Rat) = 0 from rfl]
      grind
    rw [e]
    have o := rof_fn (n := 0) (by decide) (by decide)
    refine fn1N_of pl17 (by kernel_rfl) Tryd.call17 Tryd.func17 rfl (by kernel_rfl) rfl [.cell 6 33] (by kernel_rfl) fun Q hQ => ?_
    generalize ((0 : Int) : Rat) = z at *
    refine runW ?_
    refine callV0 (o) rfl rfl ?_
    refine runW ?_
    exact endW [] hQ
  have g1 := ag_fn (r := (r : Int)) (N := r) h (by omega)
  have g2 := ag_fn (r := (r : Int) - 1) (N := r - 1) h (by omega)
  have n1 := rnat_fn (n := gN K P r) (Nat.le_trans (gN_wg hP hr) (by decide))
  have n2 := rnat_fn (n := gN K P (r - 1)) (Nat.le_trans (gN_wg hP (by omega)) (by decide))
  have sb := rsub_fn (x := (((gN K P r : Nat) : Int) : Rat)) (y := (((gN K P (r - 1) : Nat) : Int) : Rat)) ((RS_int (k := 3) (by rw [Int.natAbs_natCast]; exact gN_wg hP hr) (by decide)).mono (by decide)) ((RS_int (k := 3) (by rw [Int.natAbs_natCast]; exact gN_wg hP (by omega)) (by decide)).mono (by decide))
  have o := rof_fn (n := (n : Int)) (by omega) (by omega)
  have o2 := rof_fn (n := 268435456) (by decide) (by decide)
  have dr := dG_RS (K := K) hP hr
  have der := dGe_RS (K := K) hP hr
  have dv := rdiv_fn (x := dG K P r) (y := ((268435456 : Int) : Rat)) (by decide) (dr.mono (by decide)) ((RS_one (by decide) (by decide)).mono (by decide))
  have ml := rmul_fn (x := (((n : Nat) : Int) : Rat)) (y := dGe K P r) ((RS_one (by omega) (by omega)).mono (by decide)) (der.mono (by decide))
  have e : (((gN K P r : Nat) : Int) : Rat) - (((gN K P (r - 1) : Nat) : Int) : Rat) = dG K P r := rfl
  rw [e] at sb
  refine fn1N_of pl17 (by kernel_rfl) Tryd.call17 Tryd.func17 rfl (by kernel_rfl) rfl [.cell 6 33] (by kernel_rfl) fun Q hQ => ?_
  by_cases hK : K = 2
  · have e2 : dGe K P r = dG K P r / ((268435456 : Int) : Rat) := if_pos hK
    rw [← e2] at dv
    generalize ((((n : Nat) : Int) : Rat) * dGe K P r) = rr at *
    generalize dGe K P r = de at *
    generalize dG K P r = dd at *
    generalize (((gN K P r : Nat) : Int) : Rat) = y1 at *
    generalize (((gN K P (r - 1) : Nat) : Int) : Rat) = y2 at *
    generalize (((n : Nat) : Int) : Rat) = nr at *
    generalize ((268435456 : Int) : Rat) = u at *
    generalize gN K P r = a at *
    generalize gN K P (r - 1) = b at *
    repeat (first | (refine callV0 (g1) rfl rfl ?_) | (refine callV0 (n1) rfl rfl ?_) | (refine callV0 (g2) rfl rfl ?_) | (refine callV0 (n2) rfl rfl ?_) | (refine callV0 (sb) rfl rfl ?_) | (refine callV0 (o2) rfl rfl ?_) | (refine callV0 (dv) rfl rfl ?_) | (refine callV0 (o) rfl rfl ?_) | (refine callV0 (ml) rfl rfl ?_) | (simp (maxSteps := 1000000) (disch := (first | omega | (simp only [lnA, List.length_map, List.length_range, true_and, and_true]; (try omega); done) | fail)) only [go_sem, decide_eq_true hK, Int.reduceEq, Int.reduceToNat, Nat.reduceAdd, Nat.reduceMul, Nat.reduceEqDiff, ↓reduceIte]))
    exact endW [] hQ
  · have e2 : dGe K P r = dG K P r := if_neg hK
    rw [← e2] at sb
    generalize ((((n : Nat) : Int) : Rat) * dGe K P r) = rr at *
    generalize dGe K P r = de at *
    generalize (((gN K P r : Nat) : Int) : Rat) = y1 at *
    generalize (((gN K P (r - 1) : Nat) : Int) : Rat) = y2 at *
    generalize (((n : Nat) : Int) : Rat) = nr at *
    generalize gN K P r = a at *
    generalize gN K P (r - 1) = b at *
    repeat (first | (refine callV0 (g1) rfl rfl ?_) | (refine callV0 (n1) rfl rfl ?_) | (refine callV0 (g2) rfl rfl ?_) | (refine callV0 (n2) rfl rfl ?_) | (refine callV0 (sb) rfl rfl ?_) | (refine callV0 (o) rfl rfl ?_) | (refine callV0 (ml) rfl rfl ?_) | (simp (maxSteps := 1000000) (disch := (first | omega | (simp only [lnA, List.length_map, List.length_range, true_and, and_true]; (try omega); done) | fail)) only [go_sem, decide_eq_false hK, Int.reduceEq, Int.reduceToNat, Nat.reduceAdd, Nat.reduceMul, Nat.reduceEqDiff, ↓reduceIte]))
    exact endW [] hQ
end Go.Proofs.YtpkfddfkacijoaaDoor
