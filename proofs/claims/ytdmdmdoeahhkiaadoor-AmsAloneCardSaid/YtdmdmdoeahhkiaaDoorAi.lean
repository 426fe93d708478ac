import Derived.Test.YtdmdmdoeahhkiaaDoorAg
namespace Go.Proofs.YtdmdmdoeahhkiaaDoor
open Go.Eng Go.Vx
set_option linter.unusedSimpArgs false
set_option linter.unusedVariables false
set_option maxRecDepth 100000
def rqC (x : Rat) : List V := [.row 1 ((nl (wg x.num.natAbs)).map (ie .u64)), .lit (.bool (decide (x.num < 0))), .row 1 ((nl (wg (x.den - 1))).map (ie .u64))]
attribute [go_sem] rqC
theorem rqC_zero : rqC 0 = [.row 1 [], .lit (.bool false), .row 1 []] := by
  have h := RV_zero
  unfold RV at h
  injection h
def estV (K : Int) (P N : Nat) (x : Nat × Nat) : Rat := (((N : Nat) : Int) : Rat) * dGe K P x.2
theorem aestV_fn {K C : Int} {X : List (Nat × Nat)} {P N i : Nat} {x : Nat × Nat} (h : goodA K P C) (hi : X[i]? = some x) (hX : X.length ≤ 1000000) (hN : N ≤ 1048576) (hR : x.2 ≤ 1048576) :
    Fn1 Tryd.prog 12 [.ref 0 0 0 0, .lit (.int .i64 (i : Int))] [some (amC K P C X N)] (.tup [RV (estV K P N x), .lit (.int .i64 0)]) [some (amC K P C X N)] := by
  unfold estV
  rcases Nat.eq_zero_or_pos N with h0 | h0
  · subst h0
    have e : (((0 : Nat) : Int) : Rat) * dGe K P x.2 = 0 := by
      rw [show (((0 : Nat) : Int) : Rat) = 0 from rfl]
      grind
    rw [e]
    exact aest0L_fn hi hX
  · exact aestL_fn h hi hX h0 hN hR
theorem estV_RS {K : Int} {P N : Nat} {x : Nat × Nat} (hP : P ≤ 8) (hN : N ≤ 1048576) (hR : x.2 ≤ 1048576) : RS 9 (estV K P N x) := RS_mul (k := 1) (l := 8) (RS_one (by omega) (by omega)) (dGe_RS hP hR)
def sumE (K : Int) (P N : Nat) : List (Nat × Nat) → Rat
  | [] => 0
  | x :: X => estV K P N x + sumE K P N X
theorem sumE_snoc {K : Int} {P N : Nat} {x : Nat × Nat} : ∀ {X : List (Nat × Nat)}, sumE K P N (X ++ [x]) = sumE K P N X + estV K P N x := by
  intro X
  induction X with
  | nil => show estV K P N x + 0 = 0 + estV K P N x; grind
  | cons y Y ih =>
    show estV K P N y + sumE K P N (Y ++ [x]) = estV K P N y + sumE K P N Y + estV K P N x
    rw [ih]
    grind
theorem sumE_RS {K : Int} {P N : Nat} (hP : P ≤ 8) (hN : N ≤ 1048576) : ∀ {X : List (Nat × Nat)}, (∀ x ∈ X, x.2 ≤ 1048576) → RS (10 * X.length + 1) (sumE K P N X) := by
  intro X
  induction X with
  | nil => intro _; exact RS_one (a := 0) (by decide) (by decide)
  | cons x X ih =>
    intro h
    exact (RS_add (estV_RS hP hN (h x (by simp))) (ih fun y hy => h y (by simp [hy]))).mono (by rw [List.length_cons]; omega)
set_option maxHeartbeats 2000000 in
theorem amean_fn {K : Int} {P N : Nat} {C : Nat} {X : List (Nat × Nat)} (h : goodA K P C) (hX : X.length = C) (hN : N ≤ 1048576) (hR : ∀ x ∈ X, x.2 ≤ 1048576) :
    Fn1 Tryd.prog 44 [.ref 0 0 0 0, .lit (.int .i64 0), .lit (.int .i64 (C : Int))] [some (amC K P C X N)] (RV (sumE K P N X / (((C : Nat) : Int) : Rat))) [some (amC K P C X N)] := by
  have hC1 : 1 ≤ C := by have := h.2; omega
  have hC16 : C ≤ 16 := by have := h.2; omega
  have hP : P ≤ 8 := by obtain ⟨h, _⟩ := h; omega
  have hx := fun (i : Nat) (hi : i < X.length) => aestV_fn (N := N) (i := i) h (List.getElem?_eq_getElem hi) (by omega) hN (hR _ (List.getElem_mem hi))
  have hxs := fun (i : Nat) (hi : i < X.length) => estV_RS (K := K) (P := P) (N := N) hP hN (hR _ (List.getElem_mem hi))
  have o := rof_fn (n := (C : Int)) (by omega) (by omega)
  have hne : (((C : Nat) : Int) : Rat) ≠ 0 := vn_ne (n := C) (by omega)
  have hs := sumE_RS (K := K) (P := P) (N := N) hP hN hR
  have dv := rdiv_fn hne (hs.mono (by omega)) ((RS_one (a := (C : Int)) (by omega) (by omega)).mono (by decide))
  have hss := fun (i : Nat) => sumE_RS (K := K) (P := P) (N := N) (X := X.take i) hP hN (fun x hx => hR x (List.mem_of_mem_take hx))
  have hz := rqC_zero
  refine fn1N_of pl44 (by kernel_rfl) Tryd.call44 Tryd.func44 rfl (by kernel_rfl) rfl [.cell 6 33] (by kernel_rfl) fun Q hQ => ?_
  refine runW ?_
  refine LoopV_of (X := Nat) (st := fun i => ([(0, .ref 0 0 0 0), (1, .lit (.int .i64 0)), (2, .lit (.int .i64 (C : Int))), (6, .ref 1 0 0 0), (7, .ref 2 0 0 0), (13, .lit (.int .i64 (C : Int))), (14, .lit (.int .i64 (i : Int)))],
      [some (amC K P C X N), some (.cells [.lit (.slice none 0 0), .lit (.bool false), .lit (.slice none 0 0)]), some (.cells (rqC (sumE K P N (X.take i))))]))
    (inv := fun i => i ≤ C) (m := fun i => C - i) 0 [some 0, some 1, some 2] rfl (by rw [List.take_zero]; show mSt _ _ _ [_, _, some (.cells (rqC 0))] _; rw [hz]; exact (by simp (disch := (first | omega | (simp only [lnA, List.length_map, List.length_range, true_and, and_true]; (try omega); done) | fail)) only [go_sem, Int.reduceEq, Int.reduceToNat, Nat.reduceAdd, Nat.reduceMul, Nat.reduceEqDiff, ↓reduceIte, true_and, and_true, and_self, List.drop_zero, List.take_length, Nat.le_refl, V.lit.injEq, Value.int.injEq, Value.bool.injEq]; try (first | omega | (simp; done) | (simp; omega)))) (by simp (disch := (first | omega | (simp only [lnA, List.length_map, List.length_range, true_and, and_true]; (try omega); done) | fail)) only [go_sem, Int.reduceEq, Int.reduceToNat, Nat.reduceAdd, Nat.reduceMul, Nat.reduceEqDiff, ↓reduceIte, true_and, and_true, and_self, List.drop_zero, List.take_length, Nat.le_refl, V.lit.injEq, Value.int.injEq, Value.bool.injEq]; try (first | omega | (simp; done) | (simp; omega))) (Nat.zero_le _) ?_
  intro i hi
  by_cases hil : i < C
  · have hiX : i < X.length := by omega
    have e := hx i hiX
    have es := hxs i hiX
    have ad := radd_fn ((hss i).mono (show _ ≤ 400000 by rw [List.length_take]; omega)) (es.mono (show 9 ≤ 400000 by decide))
    rw [← sumE_snoc, ← List.take_succ_eq_append_getElem hiX] at ad
    generalize estV K P N X[i] = q at *
    generalize hA : sumE K P N (X.take i) = A at *
    have hz1 : (0 : Int) + (i : Int) = (i : Int) := by omega
    have hB := hss (i + 1)
    generalize hB2 : sumE K P N (X.take (i + 1)) = B at *
    simp (maxSteps := 1000000) (disch := (first | omega | (simp only [lnA, List.length_map, List.length_range, true_and, and_true]; (try omega); done) | fail)) only [go_sem, hz1, Int.reduceEq, Int.reduceToNat, Nat.reduceAdd, Nat.reduceMul, Nat.reduceEqDiff, ↓reduceIte]
    refine callW [some 0] [] (e) ?_
    refine runW ?_
    refine callV0 (ad) rfl rfl ?_
    refine runW ?_
    refine NextV_of (i + 1) [some 0, some 1, some 2] rfl (by dsimp only; rw [hB2]; exact (by simp (disch := (first | omega | (simp only [lnA, List.length_map, List.length_range, true_and, and_true]; (try omega); done) | fail)) only [go_sem, Int.reduceEq, Int.reduceToNat, Nat.reduceAdd, Nat.reduceMul, Nat.reduceEqDiff, ↓reduceIte, true_and, and_true, and_self, List.drop_zero, List.take_length, Nat.le_refl, V.lit.injEq, Value.int.injEq, Value.bool.injEq]; try (first | omega | (simp; done) | (simp; omega)))) (by simp (disch := (first | omega | (simp only [lnA, List.length_map, List.length_range, true_and, and_true]; (try omega); done) | fail)) only [go_sem, Int.reduceEq, Int.reduceToNat, Nat.reduceAdd, Nat.reduceMul, Nat.reduceEqDiff, ↓reduceIte, true_and, and_true, and_self, List.drop_zero, List.take_length, Nat.le_refl, V.lit.injEq, Value.int.injEq, Value.bool.injEq]; try (first | omega | (simp; done) | (simp; omega))) (by omega) (by omega)
  · obtain rfl : i = C := by omega
    have e : X.take i = X := List.take_of_length_le (by omega)
    rw [e]
    generalize sumE K P N X / (((i : Nat) : Int) : Rat) = r at *
    generalize sumE K P N X = q at *
    generalize (((i : Nat) : Int) : Rat) = cr at *
    refine runW ?_
    refine callV0 (o) rfl rfl ?_
    refine runW ?_
    refine callV0 (dv) rfl rfl ?_
    refine runW ?_
    exact endW [some 0] hQ
theorem aMean_fn {K : Int} {P N : Nat} {C : Nat} {X : List (Nat × Nat)} (h : goodA K P C) (hX : X.length = C) (hN : N ≤ 1048576) (hR : ∀ x ∈ X, x.2 ≤ 1048576) :
    Fn1 Tryd.prog 23 [.ref 0 0 0 0] [some (amC K P C X N)] (RV (sumE K P N X / (((C : Nat) : Int) : Rat))) [some (amC K P C X N)] := by
  have m := amean_fn h hX hN hR
  have hC16 : C ≤ 16 := by have := h.2; omega
  generalize sumE K P N X / (((C : Nat) : Int) : Rat) = r at *
  refine fn1N_of pl23 (by kernel_rfl) Tryd.call23 Tryd.func23 rfl (by kernel_rfl) rfl [.cell 2 33] (by kernel_rfl) fun Q hQ => ?_
  simp (maxSteps := 1000000) (disch := (first | omega | (simp only [lnA, List.length_map, List.length_range, true_and, and_true]; (try omega); done) | fail)) only [go_sem, hX, Int.reduceEq, Int.reduceToNat, Nat.reduceAdd, Nat.reduceMul, Nat.reduceEqDiff, ↓reduceIte]
  refine callW [some 0] [] (m) ?_
  refine runW ?_
  exact endW [some 0] hQ
end Go.Proofs.YtdmdmdoeahhkiaaDoor
