import Derived.Test.YtpkfddfkacijoaaAf
namespace Go.Proofs.Ytpkfddfkacijoaa
open Go.Eng Go.Vx
set_option linter.unusedSimpArgs false
set_option linter.unusedVariables false
set_option maxRecDepth 100000
theorem aestLP_fn {K C : Int} {X : List (Nat × Nat)} {P N i : Nat} {x : Nat × Nat} (h : goodA K P C) (hi : X[i]? = some x) (hX : X.length ≤ 1000000) (hN0 : 0 < N) (hN : N ≤ 1048576) (hR : x.2 ≤ 1048576) :
    Fn1 Try.prog 68 [amP K P C X N, .lit (.int .i64 (i : Int))] [] (.tup [RV ((((N : Nat) : Int) : Rat) * dGe K P x.2), .lit (.int .i64 0)]) [] := by
  have hs := asamp_fn (K := K) (P := P) (C := C) (N := N) hi hX
  have hP : P ≤ 8 := by obtain ⟨h, _⟩ := h; omega
  have g1 := ag_fn (r := (x.2 : Int)) (N := x.2) h (by omega)
  have g2 := ag_fn (r := (x.2 : Int) - 1) (N := x.2 - 1) h (by omega)
  have n1 := rnat_fn (n := gN K P x.2) (Nat.le_trans (gN_wg hP hR) (by decide))
  have n2 := rnat_fn (n := gN K P (x.2 - 1)) (Nat.le_trans (gN_wg hP (by omega)) (by decide))
  have sb := rsub_fn (x := (((gN K P x.2 : Nat) : Int) : Rat)) (y := (((gN K P (x.2 - 1) : Nat) : Int) : Rat)) ((RS_int (k := 3) (by rw [Int.natAbs_natCast]; exact gN_wg hP hR) (by decide)).mono (by decide)) ((RS_int (k := 3) (by rw [Int.natAbs_natCast]; exact gN_wg hP (by omega)) (by decide)).mono (by decide))
  have o := rof_fn (n := (N : Int)) (by omega) (by omega)
  have o2 := rof_fn (n := 268435456) (by decide) (by decide)
  have dr := dG_RS (K := K) hP hR
  have der := dGe_RS (K := K) hP hR
  have dv := rdiv_fn (x := dG K P x.2) (y := ((268435456 : Int) : Rat)) (by decide) (dr.mono (by decide)) ((RS_one (by decide) (by decide)).mono (by decide))
  have ml := rmul_fn (x := (((N : Nat) : Int) : Rat)) (y := dGe K P x.2) ((RS_one (by omega) (by omega)).mono (by decide)) (der.mono (by decide))
  have e : (((gN K P x.2 : Nat) : Int) : Rat) - (((gN K P (x.2 - 1) : Nat) : Int) : Rat) = dG K P x.2 := rfl
  rw [e] at sb
  refine fn1N_of pl68 (by kernel_rfl) Try.call68 Try.func68 rfl (by kernel_rfl) rfl [.cell 4 30, .tmp 5] (by kernel_rfl) fun Q hQ => ?_
  by_cases hK : K = 2
  · have e2 : dGe K P x.2 = dG K P x.2 / ((268435456 : Int) : Rat) := if_pos hK
    rw [← e2] at dv
    generalize ((((N : Nat) : Int) : Rat) * dGe K P x.2) = r at *
    generalize dGe K P x.2 = de at *
    generalize dG K P x.2 = dd at *
    generalize (((gN K P x.2 : Nat) : Int) : Rat) = y1 at *
    generalize (((gN K P (x.2 - 1) : Nat) : Int) : Rat) = y2 at *
    generalize (((N : Nat) : Int) : Rat) = nr at *
    generalize ((268435456 : Int) : Rat) = u at *
    generalize gN K P x.2 = a at *
    generalize gN K P (x.2 - 1) = b at *
    refine runW ?_
    refine callV0 (hs) rfl rfl ?_
    refine runW ?_
    refine callV0 (g1) rfl rfl ?_
    refine runW ?_
    refine callV0 (n1) rfl rfl ?_
    refine runW ?_
    refine callV0 (g2) rfl rfl ?_
    refine runW ?_
    refine callV0 (n2) rfl rfl ?_
    refine runW ?_
    refine callV0 (sb) rfl rfl ?_
    simp (maxSteps := 1000000) (disch := (first | omega | (simp only [lnA, List.length_map, List.length_range, true_and, and_true]; (try omega); done) | fail)) only [go_sem, decide_eq_true hK, Int.reduceEq, Int.reduceToNat, Nat.reduceAdd, Nat.reduceMul, Nat.reduceEqDiff, ↓reduceIte]
    refine callV0 (o2) rfl rfl ?_
    refine runW ?_
    refine callV0 (dv) rfl rfl ?_
    refine runW ?_
    refine callV0 (o) rfl rfl ?_
    refine runW ?_
    refine callV0 (ml) rfl rfl ?_
    refine runW ?_
    exact endW [] hQ
  · have e2 : dGe K P x.2 = dG K P x.2 := if_neg hK
    rw [← e2] at sb
    generalize ((((N : Nat) : Int) : Rat) * dGe K P x.2) = r at *
    generalize dGe K P x.2 = de at *
    generalize (((gN K P x.2 : Nat) : Int) : Rat) = y1 at *
    generalize (((gN K P (x.2 - 1) : Nat) : Int) : Rat) = y2 at *
    generalize (((N : Nat) : Int) : Rat) = nr at *
    generalize gN K P x.2 = a at *
    generalize gN K P (x.2 - 1) = b at *
    refine runW ?_
    refine callV0 (hs) rfl rfl ?_
    refine runW ?_
    refine callV0 (g1) rfl rfl ?_
    refine runW ?_
    refine callV0 (n1) rfl rfl ?_
    refine runW ?_
    refine callV0 (g2) rfl rfl ?_
    refine runW ?_
    refine callV0 (n2) rfl rfl ?_
    refine runW ?_
    refine callV0 (sb) rfl rfl ?_
    simp (maxSteps := 1000000) (disch := (first | omega | (simp only [lnA, List.length_map, List.length_range, true_and, and_true]; (try omega); done) | fail)) only [go_sem, decide_eq_false hK, Int.reduceEq, Int.reduceToNat, Nat.reduceAdd, Nat.reduceMul, Nat.reduceEqDiff, ↓reduceIte]
    refine callV0 (o) rfl rfl ?_
    refine runW ?_
    refine callV0 (ml) rfl rfl ?_
    refine runW ?_
    exact endW [] hQ
theorem aest0LP_fn {K C : Int} {X : List (Nat × Nat)} {P i : Nat} {x : Nat × Nat} (hi : X[i]? = some x) (hX : X.length ≤ 1000000) :
    Fn1 Try.prog 68 [amP K P C X 0, .lit (.int .i64 (i : Int))] [] (.tup [RV 0, .lit (.int .i64 0)]) [] := by
  have hs := asamp_fn (K := K) (P := P) (C := C) (N := 0) hi hX
  rw [RV_zero]
  refine fn1N_of pl68 (by kernel_rfl) Try.call68 Try.func68 rfl (by kernel_rfl) rfl [.cell 4 30, .tmp 5] (by kernel_rfl) fun Q hQ => ?_
  refine runW ?_
  refine callV0 (hs) rfl rfl ?_
  refine runW ?_
  exact endW [] hQ
theorem aestVP_fn {K C : Int} {X : List (Nat × Nat)} {P N i : Nat} {x : Nat × Nat} (h : goodA K P C) (hi : X[i]? = some x) (hX : X.length ≤ 1000000) (hN : N ≤ 1048576) (hR : x.2 ≤ 1048576) :
    Fn1 Try.prog 68 [amP K P C X N, .lit (.int .i64 (i : Int))] [] (.tup [RV (estV K P N x), .lit (.int .i64 0)]) [] := by
  unfold estV
  rcases Nat.eq_zero_or_pos N with h0 | h0
  · subst h0
    have e : (((0 : Nat) : Int) : Rat) * dGe K P x.2 = 0 := by
      rw [show (((0 : Nat) : Int) : Rat) = 0 from rfl]
      grind
    rw [e]
    exact aest0LP_fn hi hX
  · exact aestLP_fn h hi hX h0 hN hR
set_option maxHeartbeats 2000000 in
theorem ameanP_fn {K : Int} {P N : Nat} {C : Nat} {X : List (Nat × Nat)} (h : goodA K P C) (hX : X.length = C) (hN : N ≤ 1048576) (hR : ∀ x ∈ X, x.2 ≤ 1048576) :
    Fn1 Try.prog 40 [amP K P C X N, .lit (.int .i64 0), .lit (.int .i64 (C : Int))] [] (RV (sumE K P N X / (((C : Nat) : Int) : Rat))) [] := by
  have hC1 : 1 ≤ C := by have := h.2; omega
  have hC16 : C ≤ 16 := by have := h.2; omega
  have hP : P ≤ 8 := by obtain ⟨h, _⟩ := h; omega
  have hx := fun (i : Nat) (hi : i < X.length) => aestVP_fn (N := N) (i := i) h (List.getElem?_eq_getElem hi) (by omega) hN (hR _ (List.getElem_mem hi))
  have hxs := fun (i : Nat) (hi : i < X.length) => estV_RS (K := K) (P := P) (N := N) hP hN (hR _ (List.getElem_mem hi))
  have o := rof_fn (n := (C : Int)) (by omega) (by omega)
  have hne : (((C : Nat) : Int) : Rat) ≠ 0 := vn_ne (n := C) (by omega)
  have hs := sumE_RS (K := K) (P := P) (N := N) hP hN hR
  have dv := rdiv_fn hne (hs.mono (by omega)) ((RS_one (a := (C : Int)) (by omega) (by omega)).mono (by decide))
  have hss := fun (i : Nat) => sumE_RS (K := K) (P := P) (N := N) (X := X.take i) hP hN (fun x hx => hR x (List.mem_of_mem_take hx))
  have hz := rqC_zero
  refine fn1N_of pl40 (by kernel_rfl) Try.call40 Try.func40 rfl (by kernel_rfl) rfl [.cell 6 30] (by kernel_rfl) fun Q hQ => ?_
  refine runW ?_
  refine LoopV_of (X := Nat) (st := fun i => ([(0, amP K P C X N), (1, .lit (.int .i64 0)), (2, .lit (.int .i64 (C : Int))), (6, .ref 0 0 0 0), (7, .ref 1 0 0 0), (13, .lit (.int .i64 (C : Int))), (14, .lit (.int .i64 (i : Int)))],
      [some (.cells [.lit (.slice none 0 0), .lit (.bool false), .lit (.slice none 0 0)]), some (.cells (rqC (sumE K P N (X.take i))))]))
    (inv := fun i => i ≤ C) (m := fun i => C - i) 0 [some 0, some 1] rfl (by rw [List.take_zero]; show mSt _ _ _ [_, some (.cells (rqC 0))] _; rw [hz]; exact (by simp (disch := (first | omega | (simp only [lnA, List.length_map, List.length_range, true_and, and_true]; (try omega); done) | fail)) only [go_sem, Int.reduceEq, Int.reduceToNat, Nat.reduceAdd, Nat.reduceMul, Nat.reduceEqDiff, ↓reduceIte, true_and, and_true, and_self, List.drop_zero, List.take_length, Nat.le_refl, V.lit.injEq, Value.int.injEq, Value.bool.injEq]; try (first | omega | (simp; done) | (simp; omega)))) (by simp (disch := (first | omega | (simp only [lnA, List.length_map, List.length_range, true_and, and_true]; (try omega); done) | fail)) only [go_sem, Int.reduceEq, Int.reduceToNat, Nat.reduceAdd, Nat.reduceMul, Nat.reduceEqDiff, ↓reduceIte, true_and, and_true, and_self, List.drop_zero, List.take_length, Nat.le_refl, V.lit.injEq, Value.int.injEq, Value.bool.injEq]; try (first | omega | (simp; done) | (simp; omega))) (Nat.zero_le _) ?_
  intro i hi
  by_cases hil : i < C
  · have hiX : i < X.length := by omega
    have e := hx i hiX
    have es := hxs i hiX
    have ad := radd_fn ((hss i).mono (show _ ≤ 400000 by rw [List.length_take]; omega)) (es.mono (show 9 ≤ 400000 by decide))
    rw [← sumE_snoc, ← List.take_succ_eq_append_getElem hiX] at ad
    generalize estV K P N X[i] = q at *
    generalize hA : sumE K P N (X.take i) = A at *
    have hz1 : (0 : Int) + (i : Int) = (i : Int) := by omega
    have hB := hss (i + 1)
    generalize hB2 : sumE K P N (X.take (i + 1)) = B at *
    simp (maxSteps := 1000000) (disch := (first | omega | (simp only [lnA, List.length_map, List.length_range, true_and, and_true]; (try omega); done) | fail)) only [go_sem, hz1, Int.reduceEq, Int.reduceToNat, Nat.reduceAdd, Nat.reduceMul, Nat.reduceEqDiff, ↓reduceIte]
    refine callV0 (e) rfl rfl ?_
    refine runW ?_
    refine callV0 (ad) rfl rfl ?_
    refine runW ?_
    refine NextV_of (i + 1) [some 0, some 1] rfl (by dsimp only; rw [hB2]; exact (by simp (disch := (first | omega | (simp only [lnA, List.length_map, List.length_range, true_and, and_true]; (try omega); done) | fail)) only [go_sem, Int.reduceEq, Int.reduceToNat, Nat.reduceAdd, Nat.reduceMul, Nat.reduceEqDiff, ↓reduceIte, true_and, and_true, and_self, List.drop_zero, List.take_length, Nat.le_refl, V.lit.injEq, Value.int.injEq, Value.bool.injEq]; try (first | omega | (simp; done) | (simp; omega)))) (by simp (disch := (first | omega | (simp only [lnA, List.length_map, List.length_range, true_and, and_true]; (try omega); done) | fail)) only [go_sem, Int.reduceEq, Int.reduceToNat, Nat.reduceAdd, Nat.reduceMul, Nat.reduceEqDiff, ↓reduceIte, true_and, and_true, and_self, List.drop_zero, List.take_length, Nat.le_refl, V.lit.injEq, Value.int.injEq, Value.bool.injEq]; try (first | omega | (simp; done) | (simp; omega))) (by omega) (by omega)
  · obtain rfl : i = C := by omega
    have e : X.take i = X := List.take_of_length_le (by omega)
    rw [e]
    generalize sumE K P N X / (((i : Nat) : Int) : Rat) = r at *
    generalize sumE K P N X = q at *
    generalize (((i : Nat) : Int) : Rat) = cr at *
    refine runW ?_
    refine callV0 (o) rfl rfl ?_
    refine runW ?_
    refine callV0 (dv) rfl rfl ?_
    refine runW ?_
    exact endW [] hQ
theorem aMeanP_fn {K : Int} {P N : Nat} {C : Nat} {X : List (Nat × Nat)} (h : goodA K P C) (hX : X.length = C) (hN : N ≤ 1048576) (hR : ∀ x ∈ X, x.2 ≤ 1048576) :
    Fn1 Try.prog 12 [amP K P C X N] [] (RV (sumE K P N X / (((C : Nat) : Int) : Rat))) [] := by
  have m := ameanP_fn h hX hN hR
  have hC16 : C ≤ 16 := by have := h.2; omega
  generalize sumE K P N X / (((C : Nat) : Int) : Rat) = r at *
  refine fn1N_of pl12 (by kernel_rfl) Try.call12 Try.func12 rfl (by kernel_rfl) rfl [.cell 2 30] (by kernel_rfl) fun Q hQ => ?_
  simp (maxSteps := 1000000) (disch := (first | omega | (simp only [lnA, List.length_map, List.length_range, true_and, and_true]; (try omega); done) | fail)) only [go_sem, hX, Int.reduceEq, Int.reduceToNat, Nat.reduceAdd, Nat.reduceMul, Nat.reduceEqDiff, ↓reduceIte]
  refine callV0 (m) rfl rfl ?_
  refine runW ?_
  exact endW [] hQ
end Go.Proofs.Ytpkfddfkacijoaa
