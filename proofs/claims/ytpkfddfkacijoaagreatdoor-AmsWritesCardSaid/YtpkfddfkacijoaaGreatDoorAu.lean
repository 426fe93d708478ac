import Derived.Test.YtpkfddfkacijoaaGreatDoorAf
import Derived.Test.YtpkfddfkacijoaaGreatDoorAc
import Derived.Test.YtpkfddfkacijoaaGreatDoorFb
import Derived.Test.YtpkfddfkacijoaaGreatDoorSa
namespace Go.Proofs.YtpkfddfkacijoaaGreatDoor
open Go.Eng Go.Vx
set_option linter.unusedSimpArgs false
set_option linter.unusedVariables false
set_option maxRecDepth 100000
theorem aestL_fn {K C : Int} {X : List (Nat × Nat)} {P N i : Nat} {x : Nat × Nat} (h : goodA K P C) (hi : X[i]? = some x) (hX : X.length ≤ 1000000) (hN0 : 0 < N) (hN : N ≤ 1048576) (hR : x.2 ≤ 1048576) :
    Fn1 Tryz.prog 40 [.ref 0 0 0 0, .lit (.int .i64 (i : Int))] [some (amC K P C X N)] (.tup [RV ((((N : Nat) : Int) : Rat) * dGe K P x.2), .lit (.int .i64 0)]) [some (amC K P C X N)] := by
  have hs := asamp_fn (K := K) (P := P) (C := C) (N := N) hi hX
  have hP : P ≤ 8 := by obtain ⟨h, _⟩ := h; omega
  have g1 := ag_fn (r := (x.2 : Int)) (N := x.2) h (by omega)
  have g2 := ag_fn (r := (x.2 : Int) - 1) (N := x.2 - 1) h (by omega)
  have n1 := rnat_fn (n := gN K P x.2) (Nat.le_trans (gN_wg hP hR) (by decide))
  have n2 := rnat_fn (n := gN K P (x.2 - 1)) (Nat.le_trans (gN_wg hP (by omega)) (by decide))
  have sb := rsub_fn (x := (((gN K P x.2 : Nat) : Int) : Rat)) (y := (((gN K P (x.2 - 1) : Nat) : Int) : Rat)) ((RS_int (k := 3) (by rw [Int.natAbs_natCast]; exact gN_wg hP hR) (by decide)).mono (by decide)) ((RS_int (k := 3) (by rw [Int.natAbs_natCast]; exact gN_wg hP (by omega)) (by decide)).mono (by decide))
  have o := rof_fn (n := (N : Int)) (by omega) (by omega)
  have o2 := rof_fn (n := 268435456) (by decide) (by decide)
  have dr := dG_RS (K := K) hP hR
  have der := dGe_RS (K := K) hP hR
  have dv := rdiv_fn (x := dG K P x.2) (y := ((268435456 : Int) : Rat)) (by decide) (dr.mono (by decide)) ((RS_one (by decide) (by decide)).mono (by decide))
  have ml := rmul_fn (x := (((N : Nat) : Int) : Rat)) (y := dGe K P x.2) ((RS_one (by omega) (by omega)).mono (by decide)) (der.mono (by decide))
  have e : (((gN K P x.2 : Nat) : Int) : Rat) - (((gN K P (x.2 - 1) : Nat) : Int) : Rat) = dG K P x.2 := rfl
  rw [e] at sb
  refine fn1N_of pl40 (by kernel_rfl) Tryz.call40 Tryz.func40 rfl (by kernel_rfl) rfl [.cell 4 91, .tmp 5] (by kernel_rfl) fun Q hQ => ?_
  by_cases hK : K = 2
  · have e2 : dGe K P x.2 = dG K P x.2 / ((268435456 : Int) : Rat) := if_pos hK
    rw [← e2] at dv
    generalize ((((N : Nat) : Int) : Rat) * dGe K P x.2) = r at *
    generalize dGe K P x.2 = de at *
    generalize dG K P x.2 = dd at *
    generalize (((gN K P x.2 : Nat) : Int) : Rat) = y1 at *
    generalize (((gN K P (x.2 - 1) : Nat) : Int) : Rat) = y2 at *
    generalize (((N : Nat) : Int) : Rat) = nr at *
    generalize ((268435456 : Int) : Rat) = u at *
    generalize gN K P x.2 = a at *
    generalize gN K P (x.2 - 1) = b at *
    refine runW ?_
    refine callT (hs) ?_
    refine runW ?_
    refine callV0 (g1) rfl rfl ?_
    refine runW ?_
    refine callV0 (n1) rfl rfl ?_
    refine runW ?_
    refine callV0 (g2) rfl rfl ?_
    refine runW ?_
    refine callV0 (n2) rfl rfl ?_
    refine runW ?_
    refine callV0 (sb) rfl rfl ?_
    simp (maxSteps := 1000000) (disch := (first | omega | (simp only [lnA, List.length_map, List.length_range, true_and, and_true]; (try omega); done) | fail)) only [go_sem, decide_eq_true hK, Int.reduceEq, Int.reduceToNat, Nat.reduceAdd, Nat.reduceMul, Nat.reduceEqDiff, ↓reduceIte]
    refine callV0 (o2) rfl rfl ?_
    refine runW ?_
    refine callV0 (dv) rfl rfl ?_
    refine runW ?_
    refine callV0 (o) rfl rfl ?_
    refine runW ?_
    refine callV0 (ml) rfl rfl ?_
    refine runW ?_
    exact endW [some 0] hQ
  · have e2 : dGe K P x.2 = dG K P x.2 := if_neg hK
    rw [← e2] at sb
    generalize ((((N : Nat) : Int) : Rat) * dGe K P x.2) = r at *
    generalize dGe K P x.2 = de at *
    generalize (((gN K P x.2 : Nat) : Int) : Rat) = y1 at *
    generalize (((gN K P (x.2 - 1) : Nat) : Int) : Rat) = y2 at *
    generalize (((N : Nat) : Int) : Rat) = nr at *
    generalize gN K P x.2 = a at *
    generalize gN K P (x.2 - 1) = b at *
    refine runW ?_
    refine callT (hs) ?_
    refine runW ?_
    refine callV0 (g1) rfl rfl ?_
    refine runW ?_
    refine callV0 (n1) rfl rfl ?_
    refine runW ?_
    refine callV0 (g2) rfl rfl ?_
    refine runW ?_
    refine callV0 (n2) rfl rfl ?_
    refine runW ?_
    refine callV0 (sb) rfl rfl ?_
    simp (maxSteps := 1000000) (disch := (first | omega | (simp only [lnA, List.length_map, List.length_range, true_and, and_true]; (try omega); done) | fail)) only [go_sem, decide_eq_false hK, Int.reduceEq, Int.reduceToNat, Nat.reduceAdd, Nat.reduceMul, Nat.reduceEqDiff, ↓reduceIte]
    refine callV0 (o) rfl rfl ?_
    refine runW ?_
    refine callV0 (ml) rfl rfl ?_
    refine runW ?_
    exact endW [some 0] hQ
end Go.Proofs.YtpkfddfkacijoaaGreatDoor
