import Derived.Test.YtpkfddfkacijoaaDoorAu
import Derived.Test.YtpkfddfkacijoaaDoorNp
namespace Go.Proofs.YtpkfddfkacijoaaDoor
open Go.Eng Go.Vx
set_option linter.unusedSimpArgs false
set_option linter.unusedVariables false
set_option maxRecDepth 100000
def rqC (x : Rat) : List V := [.row 1 ((nl (wg x.num.natAbs)).map (ie .u64)), .lit (.bool (decide (x.num < 0))), .row 1 ((nl (wg (x.den - 1))).map (ie .u64))]
attribute [go_sem] rqC
def estV (K : Int) (P N : Nat) (x : Nat × Nat) : Rat := (((N : Nat) : Int) : Rat) * dGe K P x.2
theorem aestV_fn {K C : Int} {X : List (Nat × Nat)} {P N i : Nat} {x : Nat × Nat} (h : goodA K P C) (hi : X[i]? = some x) (hX : X.length ≤ 1000000) (hN : N ≤ 1048576) (hR : x.2 ≤ 1048576) :
    Fn1 Tryd.prog 11 [.ref 0 0 0 0, .lit (.int .i64 (i : Int))] [some (amC K P C X N)] (.tup [RV (estV K P N x), .lit (.int .i64 0)]) [some (amC K P C X N)] := by
  unfold estV
  rcases Nat.eq_zero_or_pos N with h0 | h0
  · subst h0
    have e : (((0 : Nat) : Int) : Rat) * dGe K P x.2 = 0 := by
      rw [show (((0 : Nat) : Int) : Rat) = 0 from rfl]
      grind
    rw [e]
    exact aest0L_fn hi hX
  · exact aestL_fn h hi hX h0 hN hR
theorem estV_RS {K : Int} {P N : Nat} {x : Nat × Nat} (hP : P ≤ 8) (hN : N ≤ 1048576) (hR : x.2 ≤ 1048576) : RS 9 (estV K P N x) := RS_mul (k := 1) (l := 8) (RS_one (by omega) (by omega)) (dGe_RS hP hR)
def sumE (K : Int) (P N : Nat) : List (Nat × Nat) → Rat
  | [] => 0
  | x :: X => estV K P N x + sumE K P N X
end Go.Proofs.YtpkfddfkacijoaaDoor

namespace Go.Proofs.YtpkfddfkacijoaaDoor
open Go.Eng Go.Vx
set_option linter.unusedSimpArgs false
set_option linter.unusedVariables false
set_option maxRecDepth 100000
theorem rwhole_fn {x : Rat} (hx : RS 1000000 x) : Fn1 Tryd.prog 39 [RV x] [] (.lit (.bool (decide (x.den = 1)))) [] := by
  have hd := x.den_nz
  have hl : (wg (x.den - 1)).length ≤ 1000000 := Nat.le_trans (wg_mono (by omega)) hx.2
  have z := zero_fn (n := x.den - 1) (by omega)
  rw [show decide (x.den - 1 = 0) = decide (x.den = 1) by congr 1; exact propext ⟨fun h => by omega, fun h => by omega⟩] at z
  refine fn1N_of pl39 (by kernel_rfl) Tryd.call39 Tryd.func39 rfl (by kernel_rfl) rfl [.tmp 2] (by kernel_rfl) fun Q hQ => ?_
  repeat (first | (refine callV0 (z) rfl rfl ?_) | (refine runW ?_))
  exact endW [] hQ
theorem rtxt_fn {x : Rat} (hx : RS 5000 x) : Fn1 Tryd.prog 20 [RV x] [] (.lit (.string (bs (qS x)))) [] := by
  obtain ⟨hx1, hx2⟩ := hx
  have w := rwhole_fn (x := x) ⟨Nat.le_trans hx1 (by decide), Nat.le_trans hx2 (by decide)⟩
  have t := wtext_fn (x := x.num) (by omega)
  have dn := rden_fn (x := x) (by omega)
  have td := ntext_fn (n := x.den) (by omega)
  have s1 := decS_wg hx1
  have s2 := decS_wg hx2
  have s3 : (zS x.num).length ≤ (decS x.num.natAbs).length + 1 := by unfold zS; split <;> simp
  unfold qS
  by_cases h : x.den = 1
  · rw [if_pos h, List.append_nil]
    rw [decide_eq_true h] at w
    generalize zS x.num = sn at *
    refine fn1N_of pl20 (by kernel_rfl) Tryd.call20 Tryd.func20 rfl (by kernel_rfl) rfl [.tmp 2] (by kernel_rfl) fun Q hQ => ?_
    repeat (first | (refine callV0 (w) rfl rfl ?_) | (refine callV0 (t) rfl rfl ?_) | (refine runW ?_))
    exact endW [] hQ
  · rw [if_neg h]
    rw [decide_eq_false h] at w
    generalize zS x.num = sn at *
    refine fn1N_of pl20 (by kernel_rfl) Tryd.call20 Tryd.func20 rfl (by kernel_rfl) rfl [.tmp 2] (by kernel_rfl) fun Q hQ => ?_
    repeat (first | (refine callV0 (w) rfl rfl ?_) | (refine callV0 (t) rfl rfl ?_) | (refine callV0 (dn) rfl rfl ?_) | (refine callV0 (td) rfl rfl ?_) | (simp (maxSteps := 1000000) (disch := (first | omega | (simp only [lnA, List.length_map, List.length_range, true_and, and_true]; (try omega); done) | fail)) only [go_sem, List.append_assoc, List.cons_append, List.nil_append, Int.reduceEq, Int.reduceToNat, Nat.reduceAdd, Nat.reduceMul, Nat.reduceEqDiff, ↓reduceIte]))
    exact endW [] hQ
end Go.Proofs.YtpkfddfkacijoaaDoor
