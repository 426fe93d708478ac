import Derived.Test.YtfemchdaoihogaaZ4
/-! FlipTakes. -/
namespace Go.Proofs.Ytfemchdaoihogaa
open Go.Eng Go.Vx
set_option linter.unusedSimpArgs false
set_option linter.unusedVariables false
set_option maxRecDepth 100000
theorem num_negR {a b : Int} (ha : a < 0) (hb : 0 < b) : ((a : Rat) / (b : Rat)).num < 0 := by
  have h : (a : Rat) / (b : Rat) < 0 := by
    have hb' : (0 : Rat) < (b : Rat) := Rat.intCast_pos.2 hb
    rw [Rat.div_lt_iff hb', Rat.zero_mul]
    exact Rat.intCast_neg_iff.2 ha
  have := mt Rat.num_nonneg.1 (Rat.not_le.2 h)
  omega
theorem ratX_frac {L : List Bool} {A B p : Nat} (hB : B ≠ 0) : ratX L (((A : Int) : Rat) / ((B : Int) : Rat)).num.natAbs (((A : Int) : Rat) / ((B : Int) : Rat)).den p = ratX L A B p := by
  have h := frac_eq (p := (A : Int)) (q := (B : Int)) (by omega)
  rw [decide_eq_false (show ¬ (A : Int) < 0 by omega), decide_eq_false (show ¬ (B : Int) < 0 by omega)] at h
  rw [← h]
  exact ratX_mk hB
theorem num_nonnegR {A B : Nat} (hB : B ≠ 0) : ¬ (((A : Int) : Rat) / ((B : Int) : Rat)).num < 0 := by
  have h := frac_eq (p := (A : Int)) (q := (B : Int)) (by omega)
  rw [decide_eq_false (show ¬ (A : Int) < 0 by omega), decide_eq_false (show ¬ (B : Int) < 0 by omega)] at h
  rw [← h]
  exact mk_nonneg hB
theorem RS_one {a : Int} (h0 : -9223372036854775808 ≤ a) (h1 : a ≤ 9223372036854775807) : RS 1 (a : Rat) := RS_int (wg_int h0 h1) (by decide)
set_option maxHeartbeats 4000000 in
theorem flipTakes_fn {L0 : List Bool} {KS : List Int} {a b c : Int} (hL0 : L0.length ≤ 9223372036854775807) (hKS : KS.length ≤ 9223372036854775807) (a0 : -9223372036854775808 ≤ a) (a1 : a ≤ 9223372036854775807) (b0 : -9223372036854775808 ≤ b) (b1 : b ≤ 9223372036854775807) (c1 : c ≤ 9223372036854775807) : Fn1 Try.prog 3 [.row 1 (L0.map be), .agg [.lit (.int .i64 a), .lit (.int .i64 b), .lit (.int .i64 c)], .row 1 (KS.map (ie .i64))] [] (.lit (.bool true)) [] := by
  obtain ⟨D, hD⟩ : ∃ m : Nat, max 0 (min b 1000) = (m : Int) := ⟨(max 0 (min b 1000)).toNat, by omega⟩
  obtain ⟨P, hP⟩ : ∃ m : Nat, max 0 (min a 1000) = (m : Int) := ⟨(max 0 (min a 1000)).toNat, by omega⟩
  obtain ⟨K, hK⟩ : ∃ m : Nat, max 0 (min c 20) = (m : Int) := ⟨(max 0 (min c 20)).toNat, by omega⟩
  have hD2 : D ≤ 1000 := by omega
  have hP2 : P ≤ 1000 := by omega
  have hK2 : K ≤ 20 := by omega
  have hk20 : min c 20 ≤ 20 := by omega
  generalize hk : min c 20 = k at *
  have wP : (wg P).length ≤ 500000 := Nat.le_trans (wg_one (by omega)) (by decide)
  have wD : (wg D).length ≤ 500000 := Nat.le_trans (wg_one (by omega)) (by decide)
  refine fn1_of pl3 (by kernel_rfl) Try.call3 Try.func3 rfl (by kernel_rfl) rfl [.tmp 6] (by kernel_rfl) fun Q hQ => ?_
  simp (maxSteps := 1000000) (disch := (first | omega | (simp only [lnA, List.length_map, List.length_range, true_and, and_true]; (try omega); done) | fail)) only [go_sem, Int.reduceEq, Int.reduceToNat, Nat.reduceAdd, Nat.reduceMul, Nat.reduceEqDiff, ↓reduceIte]
  refine callV0 (awake10_fn) rfl rfl ?_
  simp (maxSteps := 1000000) (disch := (first | omega | (simp only [lnA, List.length_map, List.length_range, true_and, and_true]; (try omega); done) | fail)) only [go_sem, Int.reduceEq, Int.reduceToNat, Nat.reduceAdd, Nat.reduceMul, Nat.reduceEqDiff, ↓reduceIte]
  refine callV0 (few9_fn (n := 300) hL0 (by decide)) rfl rfl ?_
  have hL : (L0.take 300).length ≤ 300 := by simp; omega
  generalize L0.take 300 = L at *
  simp (maxSteps := 1000000) (disch := (first | omega | (simp only [lnA, List.length_map, List.length_range, true_and, and_true]; (try omega); done) | fail)) only [go_sem, hD, hP, hk, Int.reduceEq, Int.reduceToNat, Nat.reduceAdd, Nat.reduceMul, Nat.reduceEqDiff, ↓reduceIte]
  refine callW [] [] (newT_fn (L := L) (by omega)) ?_
  simp (maxSteps := 1000000) (disch := (first | omega | (simp only [lnA, List.length_map, List.length_range, true_and, and_true]; (try omega); done) | fail)) only [go_sem, Int.reduceEq, Int.reduceToNat, Nat.reduceAdd, Nat.reduceMul, Nat.reduceEqDiff, ↓reduceIte]
  refine LoopV_of (X := Nat × Nat) (st := fun z => ([(0, .row 1 (L.map be)), (2, .row 1 (KS.map (ie .i64))), (4, .ref 0 0 0 0), (7, .lit (.int .i64 (D : Int))), (8, .lit (.int .i64 (P : Int))), (9, .lit (.int .i64 k)), (10, .ref 1 0 0 0), (11, .lit (.int .i64 (z.1 : Int)))], [some (.cells [.lit (.int .i64 a), .lit (.int .i64 b), .lit (.int .i64 c)]), some (tpC L z.2 false)]))
    (inv := fun z => z.1 ≤ 30 ∧ z.2 ≤ L.length) (m := fun z => 30 - z.1) (0, 0) [some 0, some 1] rfl (by simp (disch := (first | omega | (simp only [lnA, List.length_map, List.length_range, true_and, and_true]; (try omega); done) | fail)) only [go_sem, Int.reduceEq, Int.reduceToNat, Nat.reduceAdd, Nat.reduceMul, Nat.reduceEqDiff, ↓reduceIte, true_and, and_true, and_self, List.drop_zero, List.take_length, Nat.le_refl, V.lit.injEq, Value.int.injEq, Value.bool.injEq]; try (first | omega | (simp; done) | (simp; omega))) (by simp (disch := (first | omega | (simp only [lnA, List.length_map, List.length_range, true_and, and_true]; (try omega); done) | fail)) only [go_sem, Int.reduceEq, Int.reduceToNat, Nat.reduceAdd, Nat.reduceMul, Nat.reduceEqDiff, ↓reduceIte, true_and, and_true, and_self, List.drop_zero, List.take_length, Nat.le_refl, V.lit.injEq, Value.int.injEq, Value.bool.injEq]; try (first | omega | (simp; done) | (simp; omega))) ⟨by simp, by simp⟩ ?_
  rintro ⟨i, p⟩ ⟨hi, hp⟩
  simp only at hi hp ⊢
  by_cases h1 : i < KS.length
  · by_cases h2 : i < 30
    · simp (maxSteps := 1000000) (disch := (first | omega | (simp only [lnA, List.length_map, List.length_range, true_and, and_true]; (try omega); done) | fail)) only [go_sem, Int.reduceEq, Int.reduceToNat, Nat.reduceAdd, Nat.reduceMul, Nat.reduceEqDiff, ↓reduceIte]
      refine callT (readT_fn (L := L) (p := p) (d := false)) ?_
      simp (maxSteps := 1000000) (disch := (first | omega | (simp only [lnA, List.length_map, List.length_range, true_and, and_true]; (try omega); done) | fail)) only [go_sem, Int.reduceEq, Int.reduceToNat, Nat.reduceAdd, Nat.reduceMul, Nat.reduceEqDiff, ↓reduceIte]
      generalize hx : KS.getD i 0 % 4 = x at *
      by_cases x0 : x = 0
      · have hh := half_fn (L := L) (p := p) (K := K) (k := k) (by omega) hp hK (by omega)
        have hr := refHalf_fn (L := L) (p := p) (K := K) (k := k) (by omega) hp hK (by omega)
        have hok := okR_half (L := L) K p hp
        generalize halfX L K p = R at *
        simp (maxSteps := 1000000) (disch := (first | omega | (simp only [lnA, List.length_map, List.length_range, true_and, and_true]; (try omega); done) | fail)) only [go_sem, hx, Int.reduceEq, Int.reduceToNat, Nat.reduceAdd, Nat.reduceMul, Nat.reduceEqDiff, ↓reduceIte]
        refine callW [some 1] [] (hh) ?_
        simp (maxSteps := 1000000) (disch := (first | omega | (simp only [lnA, List.length_map, List.length_range, true_and, and_true]; (try omega); done) | fail)) only [go_sem, Int.reduceEq, Int.reduceToNat, Nat.reduceAdd, Nat.reduceMul, Nat.reduceEqDiff, ↓reduceIte]
        refine callV0 (hr) rfl rfl ?_
        have hok2 := hok
        rcases hok2 with e | ⟨rb, re, q, e1, e2, e3, e4⟩
        · subst e
          simp (maxSteps := 1000000) (disch := (first | omega | (simp only [lnA, List.length_map, List.length_range, true_and, and_true]; (try omega); done) | fail)) only [go_sem, decide_true, beq_self_eq_true, Int.reduceEq, Int.reduceToNat, Nat.reduceAdd, Nat.reduceMul, Nat.reduceEqDiff, ↓reduceIte]
          refine callT (is10_fn (L := L) (p := p) (r := (false, 8, L.length, true)) hok (by omega) hp) ?_
          simp (maxSteps := 1000000) (disch := (first | omega | (simp only [lnA, List.length_map, List.length_range, true_and, and_true]; (try omega); done) | fail)) only [go_sem, Int.reduceEq, Int.reduceToNat, Nat.reduceAdd, Nat.reduceMul, Nat.reduceEqDiff, ↓reduceIte]
          exact endW [] hQ
        · subst e1
          simp (maxSteps := 1000000) (disch := (first | omega | (simp only [lnA, List.length_map, List.length_range, true_and, and_true]; (try omega); done) | fail)) only [go_sem, Int.reduceEq, Int.reduceToNat, Nat.reduceAdd, Nat.reduceMul, Nat.reduceEqDiff, ↓reduceIte]
          refine callT (is10_fn (L := L) (p := p) (r := (rb, re, q, false)) hok (by omega) hp) ?_
          simp (maxSteps := 1000000) (disch := (first | omega | (simp only [lnA, List.length_map, List.length_range, true_and, and_true]; (try omega); done) | fail)) only [go_sem, decide_eq_false e2, Int.reduceEq, Int.reduceToNat, Nat.reduceAdd, Nat.reduceMul, Nat.reduceEqDiff, ↓reduceIte]
          refine nextW (i + 1, q) [some 0, some 1] ⟨by simp only; omega, e4⟩ (by simp only; omega)
      · by_cases x1 : x = 1
        · have hh := ratio_fn (L := L) (P := P) (D := D) (p := p) (by omega) hp wP wD
          have hr := refRatioX_fn (L := L) (P := P) (D := D) (p := p) (by omega) (by omega) hp (by omega)
          have hok := okR_rat (L := L) (P := P) (D := D) hp
          generalize ratX L P D p = R at *
          simp (maxSteps := 1000000) (disch := (first | omega | (simp only [lnA, List.length_map, List.length_range, true_and, and_true]; (try omega); done) | fail)) only [go_sem, hx, Int.reduceEq, Int.reduceToNat, Nat.reduceAdd, Nat.reduceMul, Nat.reduceEqDiff, ↓reduceIte]
          refine callW [] [3] (of1_fn (x := P) (by omega)) ?_
          simp (maxSteps := 1000000) (disch := (first | omega | (simp only [lnA, List.length_map, List.length_range, true_and, and_true]; (try omega); done) | fail)) only [go_sem, Int.reduceEq, Int.reduceToNat, Nat.reduceAdd, Nat.reduceMul, Nat.reduceEqDiff, ↓reduceIte]
          refine callW [] [4] (of1_fn (x := D) (by omega)) ?_
          simp (maxSteps := 1000000) (disch := (first | omega | (simp only [lnA, List.length_map, List.length_range, true_and, and_true]; (try omega); done) | fail)) only [go_sem, Int.reduceEq, Int.reduceToNat, Nat.reduceAdd, Nat.reduceMul, Nat.reduceEqDiff, ↓reduceIte]
          refine callW [some 1] [] (hh) ?_
          simp (maxSteps := 1000000) (disch := (first | omega | (simp only [lnA, List.length_map, List.length_range, true_and, and_true]; (try omega); done) | fail)) only [go_sem, Int.reduceEq, Int.reduceToNat, Nat.reduceAdd, Nat.reduceMul, Nat.reduceEqDiff, ↓reduceIte]
          refine callV0 (hr) rfl rfl ?_
          have hok2 := hok
          rcases hok2 with e | ⟨rb, re, q, e1, e2, e3, e4⟩
          · subst e
            simp (maxSteps := 1000000) (disch := (first | omega | (simp only [lnA, List.length_map, List.length_range, true_and, and_true]; (try omega); done) | fail)) only [go_sem, decide_true, beq_self_eq_true, Int.reduceEq, Int.reduceToNat, Nat.reduceAdd, Nat.reduceMul, Nat.reduceEqDiff, ↓reduceIte]
            refine callT (is10_fn (L := L) (p := p) (r := (false, 8, L.length, true)) hok (by omega) hp) ?_
            simp (maxSteps := 1000000) (disch := (first | omega | (simp only [lnA, List.length_map, List.length_range, true_and, and_true]; (try omega); done) | fail)) only [go_sem, Int.reduceEq, Int.reduceToNat, Nat.reduceAdd, Nat.reduceMul, Nat.reduceEqDiff, ↓reduceIte]
            exact endW [] hQ
          · subst e1
            simp (maxSteps := 1000000) (disch := (first | omega | (simp only [lnA, List.length_map, List.length_range, true_and, and_true]; (try omega); done) | fail)) only [go_sem, Int.reduceEq, Int.reduceToNat, Nat.reduceAdd, Nat.reduceMul, Nat.reduceEqDiff, ↓reduceIte]
            refine callT (is10_fn (L := L) (p := p) (r := (rb, re, q, false)) hok (by omega) hp) ?_
            simp (maxSteps := 1000000) (disch := (first | omega | (simp only [lnA, List.length_map, List.length_range, true_and, and_true]; (try omega); done) | fail)) only [go_sem, decide_eq_false e2, Int.reduceEq, Int.reduceToNat, Nat.reduceAdd, Nat.reduceMul, Nat.reduceEqDiff, ↓reduceIte]
            refine nextW (i + 1, q) [some 0, some 1] ⟨by simp only; omega, e4⟩ (by simp only; omega)
        · by_cases x2 : x = 2
          · have hh := power_fn (L := L) (P := P) (D := D) (p := p) (K := K) (k := k) (by omega) hp wP wD hK (by omega)
            have hr := refPower_fn (L := L) (P := P) (D := D) (p := p) (K := K) (k := k) (by omega) (by omega) hp (by omega) hK (by omega)
            have hok := okR_pow (L := L) (P := P) (D := D) (K := K) hp
            generalize powX L P D K p = R at *
            simp (maxSteps := 1000000) (disch := (first | omega | (simp only [lnA, List.length_map, List.length_range, true_and, and_true]; (try omega); done) | fail)) only [go_sem, hx, Int.reduceEq, Int.reduceToNat, Nat.reduceAdd, Nat.reduceMul, Nat.reduceEqDiff, ↓reduceIte]
            refine callW [] [3] (of1_fn (x := P) (by omega)) ?_
            simp (maxSteps := 1000000) (disch := (first | omega | (simp only [lnA, List.length_map, List.length_range, true_and, and_true]; (try omega); done) | fail)) only [go_sem, Int.reduceEq, Int.reduceToNat, Nat.reduceAdd, Nat.reduceMul, Nat.reduceEqDiff, ↓reduceIte]
            refine callW [] [4] (of1_fn (x := D) (by omega)) ?_
            simp (maxSteps := 1000000) (disch := (first | omega | (simp only [lnA, List.length_map, List.length_range, true_and, and_true]; (try omega); done) | fail)) only [go_sem, Int.reduceEq, Int.reduceToNat, Nat.reduceAdd, Nat.reduceMul, Nat.reduceEqDiff, ↓reduceIte]
            refine callW [some 1] [] (hh) ?_
            simp (maxSteps := 1000000) (disch := (first | omega | (simp only [lnA, List.length_map, List.length_range, true_and, and_true]; (try omega); done) | fail)) only [go_sem, Int.reduceEq, Int.reduceToNat, Nat.reduceAdd, Nat.reduceMul, Nat.reduceEqDiff, ↓reduceIte]
            refine callV0 (hr) rfl rfl ?_
            have hok2 := hok
            rcases hok2 with e | ⟨rb, re, q, e1, e2, e3, e4⟩
            · subst e
              simp (maxSteps := 1000000) (disch := (first | omega | (simp only [lnA, List.length_map, List.length_range, true_and, and_true]; (try omega); done) | fail)) only [go_sem, decide_true, beq_self_eq_true, Int.reduceEq, Int.reduceToNat, Nat.reduceAdd, Nat.reduceMul, Nat.reduceEqDiff, ↓reduceIte]
              refine callT (is10_fn (L := L) (p := p) (r := (false, 8, L.length, true)) hok (by omega) hp) ?_
              simp (maxSteps := 1000000) (disch := (first | omega | (simp only [lnA, List.length_map, List.length_range, true_and, and_true]; (try omega); done) | fail)) only [go_sem, Int.reduceEq, Int.reduceToNat, Nat.reduceAdd, Nat.reduceMul, Nat.reduceEqDiff, ↓reduceIte]
              exact endW [] hQ
            · subst e1
              simp (maxSteps := 1000000) (disch := (first | omega | (simp only [lnA, List.length_map, List.length_range, true_and, and_true]; (try omega); done) | fail)) only [go_sem, Int.reduceEq, Int.reduceToNat, Nat.reduceAdd, Nat.reduceMul, Nat.reduceEqDiff, ↓reduceIte]
              refine callT (is10_fn (L := L) (p := p) (r := (rb, re, q, false)) hok (by omega) hp) ?_
              simp (maxSteps := 1000000) (disch := (first | omega | (simp only [lnA, List.length_map, List.length_range, true_and, and_true]; (try omega); done) | fail)) only [go_sem, decide_eq_false e2, Int.reduceEq, Int.reduceToNat, Nat.reduceAdd, Nat.reduceMul, Nat.reduceEqDiff, ↓reduceIte]
              refine nextW (i + 1, q) [some 0, some 1] ⟨by simp only; omega, e4⟩ (by simp only; omega)
          · simp (maxSteps := 1000000) (disch := (first | omega | (simp only [lnA, List.length_map, List.length_range, true_and, and_true]; (try omega); done) | fail)) only [go_sem, hx, Int.reduceEq, Int.reduceToNat, Nat.reduceAdd, Nat.reduceMul, Nat.reduceEqDiff, ↓reduceIte]
            refine callV0 (wof_fn a0 a1) rfl rfl ?_
            simp (maxSteps := 1000000) (disch := (first | omega | (simp only [lnA, List.length_map, List.length_range, true_and, and_true]; (try omega); done) | fail)) only [go_sem, Int.reduceEq, Int.reduceToNat, Nat.reduceAdd, Nat.reduceMul, Nat.reduceEqDiff, ↓reduceIte]
            refine callV0 (wof_fn b0 b1) rfl rfl ?_
            simp (maxSteps := 1000000) (disch := (first | omega | (simp only [lnA, List.length_map, List.length_range, true_and, and_true]; (try omega); done) | fail)) only [go_sem, Int.reduceEq, Int.reduceToNat, Nat.reduceAdd, Nat.reduceMul, Nat.reduceEqDiff, ↓reduceIte]
            by_cases hb0 : b = 0
            · have hf := rfrac0_fn (p := a)
              rw [← hb0] at hf
              refine callV0 (hf) rfl rfl ?_
              simp (maxSteps := 1000000) (disch := (first | omega | (simp only [lnA, List.length_map, List.length_range, true_and, and_true]; (try omega); done) | fail)) only [go_sem, Int.reduceEq, Int.reduceToNat, Nat.reduceAdd, Nat.reduceMul, Nat.reduceEqDiff, ↓reduceIte]
              refine nextW (i + 1, p) [some 0, some 1] ⟨by simp only; omega, hp⟩ (by simp only; omega)
            · have hf := rfrac_fn (p := a) (q := b) hb0 (Nat.le_trans (wg_int a0 a1) (by decide)) (Nat.le_trans (wg_int b0 b1) (by decide))
              refine callV0 (hf) rfl rfl ?_
              have hRS := RS_div (by decide) (RS_one a0 a1) (RS_one b0 b1)
              by_cases hb1 : b < 0
              · simp (maxSteps := 1000000) (disch := (first | omega | (simp only [lnA, List.length_map, List.length_range, true_and, and_true]; (try omega); done) | fail)) only [go_sem, Int.reduceEq, Int.reduceToNat, Nat.reduceAdd, Nat.reduceMul, Nat.reduceEqDiff, ↓reduceIte]
                refine nextW (i + 1, p) [some 0, some 1] ⟨by simp only; omega, hp⟩ (by simp only; omega)
              · by_cases hb2 : 1000 < b
                · simp (maxSteps := 1000000) (disch := (first | omega | (simp only [lnA, List.length_map, List.length_range, true_and, and_true]; (try omega); done) | fail)) only [go_sem, Int.reduceEq, Int.reduceToNat, Nat.reduceAdd, Nat.reduceMul, Nat.reduceEqDiff, ↓reduceIte]
                  refine nextW (i + 1, p) [some 0, some 1] ⟨by simp only; omega, hp⟩ (by simp only; omega)
                · by_cases ha2 : 1000 < a
                  · simp (maxSteps := 1000000) (disch := (first | omega | (simp only [lnA, List.length_map, List.length_range, true_and, and_true]; (try omega); done) | fail)) only [go_sem, Int.reduceEq, Int.reduceToNat, Nat.reduceAdd, Nat.reduceMul, Nat.reduceEqDiff, ↓reduceIte]
                    refine nextW (i + 1, p) [some 0, some 1] ⟨by simp only; omega, hp⟩ (by simp only; omega)
                  · by_cases ha3 : a < 0
                    · have hc := chanceE_fn (L := L) (p := p) (num_negR ha3 (show 0 < b by omega))
                      have hr := refRatioE_fn (L := L) (p := p) (P := a) (D := b) (.inr (.inl ha3)) hp (by omega)
                      have hok : okR L p (false, 2, p, false) := .inr ⟨_, _, _, rfl, by decide, Nat.le_refl _, hp⟩
                      generalize (a : Rat) / (b : Rat) = X at *
                      simp (maxSteps := 1000000) (disch := (first | omega | (simp only [lnA, List.length_map, List.length_range, true_and, and_true]; (try omega); done) | fail)) only [go_sem, Int.reduceEq, Int.reduceToNat, Nat.reduceAdd, Nat.reduceMul, Nat.reduceEqDiff, ↓reduceIte]
                      refine callW [some 1] [] (hc) ?_
                      simp (maxSteps := 1000000) (disch := (first | omega | (simp only [lnA, List.length_map, List.length_range, true_and, and_true]; (try omega); done) | fail)) only [go_sem, Int.reduceEq, Int.reduceToNat, Nat.reduceAdd, Nat.reduceMul, Nat.reduceEqDiff, ↓reduceIte]
                      refine callV0 (hr) rfl rfl ?_
                      simp (maxSteps := 1000000) (disch := (first | omega | (simp only [lnA, List.length_map, List.length_range, true_and, and_true]; (try omega); done) | fail)) only [go_sem, Int.reduceEq, Int.reduceToNat, Nat.reduceAdd, Nat.reduceMul, Nat.reduceEqDiff, ↓reduceIte]
                      refine callT (is10_fn (L := L) (p := p) (r := (false, 2, p, false)) hok (by omega) hp) ?_
                      simp (maxSteps := 1000000) (disch := (first | omega | (simp only [lnA, List.length_map, List.length_range, true_and, and_true]; (try omega); done) | fail)) only [go_sem, Int.reduceEq, Int.reduceToNat, Nat.reduceAdd, Nat.reduceMul, Nat.reduceEqDiff, ↓reduceIte]
                      refine nextW (i + 1, p) [some 0, some 1] ⟨by simp only; omega, hp⟩ (by simp only; omega)
                    · obtain ⟨A, rfl⟩ : ∃ A : Nat, a = (A : Int) := ⟨a.toNat, by omega⟩
                      obtain ⟨B, rfl⟩ : ∃ B : Nat, b = (B : Int) := ⟨b.toNat, by omega⟩
                      have hB0 : B ≠ 0 := by omega
                      have hh := chance_fn (x := ((A : Int) : Rat) / ((B : Int) : Rat)) (L := L) (p := p) (by omega) hp (num_nonnegR hB0) (hRS.mono (by decide))
                      rw [ratX_frac hB0] at hh
                      have hr := refRatioX_fn (L := L) (P := A) (D := B) (p := p) (by omega) (by omega) hp (by omega)
                      have hok := okR_rat (L := L) (P := A) (D := B) hp
                      generalize ratX L A B p = R at *
                      generalize ((A : Int) : Rat) / ((B : Int) : Rat) = X at *
                      simp (maxSteps := 1000000) (disch := (first | omega | (simp only [lnA, List.length_map, List.length_range, true_and, and_true]; (try omega); done) | fail)) only [go_sem, Int.reduceEq, Int.reduceToNat, Nat.reduceAdd, Nat.reduceMul, Nat.reduceEqDiff, ↓reduceIte]
                      refine callW [some 1] [] (hh) ?_
                      simp (maxSteps := 1000000) (disch := (first | omega | (simp only [lnA, List.length_map, List.length_range, true_and, and_true]; (try omega); done) | fail)) only [go_sem, Int.reduceEq, Int.reduceToNat, Nat.reduceAdd, Nat.reduceMul, Nat.reduceEqDiff, ↓reduceIte]
                      refine callV0 (hr) rfl rfl ?_
                      have hok2 := hok
                      rcases hok2 with e | ⟨rb, re, q, e1, e2, e3, e4⟩
                      · subst e
                        simp (maxSteps := 1000000) (disch := (first | omega | (simp only [lnA, List.length_map, List.length_range, true_and, and_true]; (try omega); done) | fail)) only [go_sem, decide_true, beq_self_eq_true, Int.reduceEq, Int.reduceToNat, Nat.reduceAdd, Nat.reduceMul, Nat.reduceEqDiff, ↓reduceIte]
                        refine callT (is10_fn (L := L) (p := p) (r := (false, 8, L.length, true)) hok (by omega) hp) ?_
                        simp (maxSteps := 1000000) (disch := (first | omega | (simp only [lnA, List.length_map, List.length_range, true_and, and_true]; (try omega); done) | fail)) only [go_sem, Int.reduceEq, Int.reduceToNat, Nat.reduceAdd, Nat.reduceMul, Nat.reduceEqDiff, ↓reduceIte]
                        exact endW [] hQ
                      · subst e1
                        simp (maxSteps := 1000000) (disch := (first | omega | (simp only [lnA, List.length_map, List.length_range, true_and, and_true]; (try omega); done) | fail)) only [go_sem, Int.reduceEq, Int.reduceToNat, Nat.reduceAdd, Nat.reduceMul, Nat.reduceEqDiff, ↓reduceIte]
                        refine callT (is10_fn (L := L) (p := p) (r := (rb, re, q, false)) hok (by omega) hp) ?_
                        simp (maxSteps := 1000000) (disch := (first | omega | (simp only [lnA, List.length_map, List.length_range, true_and, and_true]; (try omega); done) | fail)) only [go_sem, decide_eq_false e2, Int.reduceEq, Int.reduceToNat, Nat.reduceAdd, Nat.reduceMul, Nat.reduceEqDiff, ↓reduceIte]
                        refine nextW (i + 1, q) [some 0, some 1] ⟨by simp only; omega, e4⟩ (by simp only; omega)
    · simp (maxSteps := 1000000) (disch := (first | omega | (simp only [lnA, List.length_map, List.length_range, true_and, and_true]; (try omega); done) | fail)) only [go_sem, Int.reduceEq, Int.reduceToNat, Nat.reduceAdd, Nat.reduceMul, Nat.reduceEqDiff, ↓reduceIte]
      exact endW [] hQ
  · simp (maxSteps := 1000000) (disch := (first | omega | (simp only [lnA, List.length_map, List.length_range, true_and, and_true]; (try omega); done) | fail)) only [go_sem, Int.reduceEq, Int.reduceToNat, Nat.reduceAdd, Nat.reduceMul, Nat.reduceEqDiff, ↓reduceIte]
    exact endW [] hQ
end Go.Proofs.Ytfemchdaoihogaa
