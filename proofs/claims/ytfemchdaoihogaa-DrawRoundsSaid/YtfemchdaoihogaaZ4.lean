import Derived.Test.YtfemchdaoihogaaZ3
import Derived.Test.YtfemchdaoihogaaFb
import Derived.Test.YtfemchdaoihogaaT1
/-! The document's flips. -/
namespace Go.Proofs.Ytfemchdaoihogaa
open Go.Eng Go.Vx
set_option linter.unusedSimpArgs false
set_option linter.unusedVariables false
set_option maxRecDepth 100000
/-- The document's answer: yes?, how many coins, the error. -/
def out10 (p : Nat) (r : Bool × Int × Nat × Bool) : V := .agg [.lit (.bool r.1), .lit (.int .i64 ((r.2.2.1 : Int) - (p : Int))), .lit (.int .i64 r.2.1)]
attribute [go_sem] out10
theorem halfX_ge {L : List Bool} : ∀ k p, p ≤ L.length → p ≤ (halfX L k p).2.2.1 ∧ (halfX L k p).2.2.1 ≤ L.length
  | 0, p, h => by rw [halfX_zero]; exact ⟨Nat.le_refl _, h⟩
  | k + 1, p, h => by
    rw [halfX_succ]
    split
    · split
      · have := halfX_ge (L := L) k (p + 1) (by omega)
        omega
      · simp only; omega
    · simp only; omega
theorem refHalf_fn {L : List Bool} {p K : Nat} {k : Int} (hL : L.length ≤ 1048576) (hp : p ≤ L.length) (hk : max 0 k = (K : Int)) (hk1 : k ≤ 9223372036854775807) : Fn1 Try.prog 13 [.row 1 (L.map be), .lit (.int .i64 (p : Int)), .lit (.int .i64 k)] [] (out10 p (halfX L K p)) [] := by
  refine fn1_of pl13 (by kernel_rfl) Try.call13 Try.func13 rfl (by kernel_rfl) rfl [.cell 6 32] (by kernel_rfl) fun Q hQ => ?_
  simp (maxSteps := 1000000) (disch := (first | omega | (simp only [lnA, List.length_map, List.length_range, true_and, and_true]; (try omega); done) | fail)) only [go_sem, Int.reduceEq, Int.reduceToNat, Nat.reduceAdd, Nat.reduceMul, Nat.reduceEqDiff, ↓reduceIte]
  refine LoopV_of (X := Nat) (st := fun i => ([(0, .row 1 (L.map be)), (1, .lit (.int .i64 (p : Int))), (2, .lit (.int .i64 k)), (6, .ref 0 0 0 0), (7, .lit (.int .i64 (i : Int)))], [some (.cells [.lit (.bool false), .lit (.int .i64 0), .lit (.int .i64 0)])]))
    (inv := fun i => i ≤ K ∧ p + i ≤ L.length ∧ halfX L K p = halfX L (K - i) (p + i)) (m := fun i => K - i) 0 [some 0] rfl (by simp (disch := (first | omega | (simp only [lnA, List.length_map, List.length_range, true_and, and_true]; (try omega); done) | fail)) only [go_sem, Int.reduceEq, Int.reduceToNat, Nat.reduceAdd, Nat.reduceMul, Nat.reduceEqDiff, ↓reduceIte, true_and, and_true, and_self, List.drop_zero, List.take_length, Nat.le_refl, V.lit.injEq, Value.int.injEq, Value.bool.injEq]; try (first | omega | (simp; done) | (simp; omega))) (by simp (disch := (first | omega | (simp only [lnA, List.length_map, List.length_range, true_and, and_true]; (try omega); done) | fail)) only [go_sem, Int.reduceEq, Int.reduceToNat, Nat.reduceAdd, Nat.reduceMul, Nat.reduceEqDiff, ↓reduceIte, true_and, and_true, and_self, List.drop_zero, List.take_length, Nat.le_refl, V.lit.injEq, Value.int.injEq, Value.bool.injEq]; try (first | omega | (simp; done) | (simp; omega))) ⟨by omega, by omega, rfl⟩ ?_
  rintro i ⟨hi, hpi, hv⟩
  by_cases h : i < K
  · obtain ⟨n, hn⟩ : ∃ n, K - i = n + 1 := ⟨K - i - 1, by omega⟩
    rw [hn, halfX_succ] at hv
    have hki : k = (K : Int) := by omega
    by_cases hl : p + i < L.length
    · rw [if_pos hl] at hv
      have hx : ((p : Int) + (i : Int)).toNat = p + i := by omega
      cases hb : L.getD (p + i) false
      · rw [hb, if_neg (by simp)] at hv
        rw [hv] at hQ
        simp (maxSteps := 1000000) (disch := (first | omega | (simp only [lnA, List.length_map, List.length_range, true_and, and_true]; (try omega); done) | fail)) only [go_sem, hx, hb, Int.reduceEq, Int.reduceToNat, Nat.reduceAdd, Nat.reduceMul, Nat.reduceEqDiff, ↓reduceIte]
        exact endW [] hQ
      · rw [hb, if_pos rfl] at hv
        simp (maxSteps := 1000000) (disch := (first | omega | (simp only [lnA, List.length_map, List.length_range, true_and, and_true]; (try omega); done) | fail)) only [go_sem, hx, hb, Int.reduceEq, Int.reduceToNat, Nat.reduceAdd, Nat.reduceMul, Nat.reduceEqDiff, ↓reduceIte]
        refine nextW (i + 1) [some 0] ⟨by omega, by omega, ?_⟩ (by omega)
        rw [hv, show K - (i + 1) = n by omega, Nat.add_assoc]
    · rw [if_neg hl] at hv
      rw [hv] at hQ
      simp (maxSteps := 1000000) (disch := (first | omega | (simp only [lnA, List.length_map, List.length_range, true_and, and_true]; (try omega); done) | fail)) only [go_sem, Int.reduceEq, Int.reduceToNat, Nat.reduceAdd, Nat.reduceMul, Nat.reduceEqDiff, ↓reduceIte]
      exact endW [] hQ
  · obtain rfl : i = K := by omega
    rw [Nat.sub_self, halfX_zero] at hv
    rw [hv] at hQ
    by_cases hk0 : k < 0
    · simp (maxSteps := 1000000) (disch := (first | omega | (simp only [lnA, List.length_map, List.length_range, true_and, and_true]; (try omega); done) | fail)) only [go_sem, Int.reduceEq, Int.reduceToNat, Nat.reduceAdd, Nat.reduceMul, Nat.reduceEqDiff, ↓reduceIte]
      exact endW [] hQ
    · simp (maxSteps := 1000000) (disch := (first | omega | (simp only [lnA, List.length_map, List.length_range, true_and, and_true]; (try omega); done) | fail)) only [go_sem, Int.reduceEq, Int.reduceToNat, Nat.reduceAdd, Nat.reduceMul, Nat.reduceEqDiff, ↓reduceIte]
      exact endW [] hQ
theorem two_div {r D : Nat} (h : r < D) : (2 * (r : Int)) / (D : Int) = (if D ≤ r + r then 1 else 0 : Nat) ∧ (2 * (r : Int)) % (D : Int) = ((if D ≤ r + r then r + r - D else r + r : Nat) : Int) := by
  split
  · refine (Int.ediv_emod_unique (by omega)).2 ⟨?_, by omega, by omega⟩
    simp; omega
  · refine (Int.ediv_emod_unique (by omega)).2 ⟨?_, by omega, by omega⟩
    simp; omega
theorem refRatioE_fn {L : List Bool} {p : Nat} {P D : Int} (h : D ≤ 0 ∨ P < 0 ∨ D < P) (hp : p ≤ L.length) (hL : L.length ≤ 1048576) : Fn1 Try.prog 16 [.row 1 (L.map be), .lit (.int .i64 (p : Int)), .lit (.int .i64 P), .lit (.int .i64 D)] [] (out10 p (false, 2, p, false)) [] := by
  refine fn1_of pl16 (by kernel_rfl) Try.call16 Try.func16 rfl (by kernel_rfl) rfl [.cell 8 32] (by kernel_rfl) fun Q hQ => ?_
  by_cases h1 : D ≤ 0
  · simp (maxSteps := 1000000) (disch := (first | omega | (simp only [lnA, List.length_map, List.length_range, true_and, and_true]; (try omega); done) | fail)) only [go_sem, Int.reduceEq, Int.reduceToNat, Nat.reduceAdd, Nat.reduceMul, Nat.reduceEqDiff, ↓reduceIte]
    exact endW [] hQ
  · by_cases h2 : P < 0
    · simp (maxSteps := 1000000) (disch := (first | omega | (simp only [lnA, List.length_map, List.length_range, true_and, and_true]; (try omega); done) | fail)) only [go_sem, Int.reduceEq, Int.reduceToNat, Nat.reduceAdd, Nat.reduceMul, Nat.reduceEqDiff, ↓reduceIte]
      exact endW [] hQ
    · simp (maxSteps := 1000000) (disch := (first | omega | (simp only [lnA, List.length_map, List.length_range, true_and, and_true]; (try omega); done) | fail)) only [go_sem, Int.reduceEq, Int.reduceToNat, Nat.reduceAdd, Nat.reduceMul, Nat.reduceEqDiff, ↓reduceIte]
      exact endW [] hQ
theorem refRatio_fn {L : List Bool} {p P D : Nat} (hD : D ≠ 0) (hPD : P ≤ D) (hD2 : D ≤ 4294967296) (hp : p ≤ L.length) (hL : L.length ≤ 1048576) : Fn1 Try.prog 16 [.row 1 (L.map be), .lit (.int .i64 (p : Int)), .lit (.int .i64 (P : Int)), .lit (.int .i64 (D : Int))] [] (out10 p (ratX L P D p)) [] := by
  refine fn1_of pl16 (by kernel_rfl) Try.call16 Try.func16 rfl (by kernel_rfl) rfl [.cell 8 32] (by kernel_rfl) fun Q hQ => ?_
  unfold ratX at hQ
  rw [if_neg (by omega)] at hQ
  by_cases h1 : P = 0
  · rw [if_pos h1] at hQ
    have hne : decide ((P : Int) = (D : Int)) = false := decide_eq_false (by omega)
    simp (maxSteps := 1000000) (disch := (first | omega | (simp only [lnA, List.length_map, List.length_range, true_and, and_true]; (try omega); done) | fail)) only [go_sem, hne, Int.reduceEq, Int.reduceToNat, Nat.reduceAdd, Nat.reduceMul, Nat.reduceEqDiff, ↓reduceIte]
    exact endW [] hQ
  · rw [if_neg h1] at hQ
    by_cases h2 : P = D
    · rw [if_pos h2] at hQ
      simp (maxSteps := 1000000) (disch := (first | omega | (simp only [lnA, List.length_map, List.length_range, true_and, and_true]; (try omega); done) | fail)) only [go_sem, Int.reduceEq, Int.reduceToNat, Nat.reduceAdd, Nat.reduceMul, Nat.reduceEqDiff, ↓reduceIte]
      exact endW [] hQ
    · rw [if_neg h2] at hQ
      simp (maxSteps := 1000000) (disch := (first | omega | (simp only [lnA, List.length_map, List.length_range, true_and, and_true]; (try omega); done) | fail)) only [go_sem, Int.reduceEq, Int.reduceToNat, Nat.reduceAdd, Nat.reduceMul, Nat.reduceEqDiff, ↓reduceIte]
      refine LoopV_of (X := Nat × Nat) (st := fun z => ([(0, .row 1 (L.map be)), (1, .lit (.int .i64 (p : Int))), (2, .lit (.int .i64 (z.2 : Int))), (3, .lit (.int .i64 (D : Int))), (8, .ref 0 0 0 0), (9, .lit (.int .i64 (z.1 : Int)))], [some (.cells [.lit (.bool false), .lit (.int .i64 0), .lit (.int .i64 0)])]))
        (inv := fun z => p + z.1 ≤ L.length ∧ z.2 < D ∧ ratR L D (L.length + 1 - p) P p = ratR L D (L.length + 1 - (p + z.1)) z.2 (p + z.1)) (m := fun z => L.length - z.1) (0, P) [some 0] rfl (by simp (disch := (first | omega | (simp only [lnA, List.length_map, List.length_range, true_and, and_true]; (try omega); done) | fail)) only [go_sem, Int.reduceEq, Int.reduceToNat, Nat.reduceAdd, Nat.reduceMul, Nat.reduceEqDiff, ↓reduceIte, true_and, and_true, and_self, List.drop_zero, List.take_length, Nat.le_refl, V.lit.injEq, Value.int.injEq, Value.bool.injEq]; try (first | omega | (simp; done) | (simp; omega))) (by simp (disch := (first | omega | (simp only [lnA, List.length_map, List.length_range, true_and, and_true]; (try omega); done) | fail)) only [go_sem, Int.reduceEq, Int.reduceToNat, Nat.reduceAdd, Nat.reduceMul, Nat.reduceEqDiff, ↓reduceIte, true_and, and_true, and_self, List.drop_zero, List.take_length, Nat.le_refl, V.lit.injEq, Value.int.injEq, Value.bool.injEq]; try (first | omega | (simp; done) | (simp; omega))) ⟨by simpa using hp, by simp only; omega, rfl⟩ ?_
      rintro ⟨i, r⟩ ⟨hi, hr, hv⟩
      simp only at hi hr hv ⊢
      obtain ⟨f, hf⟩ : ∃ f, L.length + 1 - (p + i) = f + 1 := ⟨L.length - (p + i), by omega⟩
      rw [hf, ratR_succ] at hv
      by_cases hl : p + i < L.length
      · rw [if_pos hl] at hv
        have hx : ((p : Int) + (i : Int)).toNat = p + i := by omega
        obtain ⟨d1, d2⟩ := two_div hr
        generalize hb : L.getD (p + i) false = b at *
        by_cases hd : D ≤ r + r
        · rw [if_pos hd, decide_eq_true hd] at hv
          rw [if_pos hd] at d1 d2
          cases b
          · rw [if_neg (by simp)] at hv
            rw [hv] at hQ
            simp (maxSteps := 1000000) (disch := (first | omega | (simp only [lnA, List.length_map, List.length_range, true_and, and_true]; (try omega); done) | fail)) only [go_sem, hx, hb, d1, d2, Int.reduceEq, Int.reduceToNat, Nat.reduceAdd, Nat.reduceMul, Nat.reduceEqDiff, ↓reduceIte]
            exact endW [] hQ
          · by_cases hz : r + r - D = 0
            · rw [if_neg (fun h => h.2 hz)] at hv
              rw [hv] at hQ
              simp (maxSteps := 1000000) (disch := (first | omega | (simp only [lnA, List.length_map, List.length_range, true_and, and_true]; (try omega); done) | fail)) only [go_sem, hx, hb, d1, d2, Int.reduceEq, Int.reduceToNat, Nat.reduceAdd, Nat.reduceMul, Nat.reduceEqDiff, ↓reduceIte]
              exact endW [] hQ
            · rw [if_pos ⟨rfl, hz⟩] at hv
              simp (maxSteps := 1000000) (disch := (first | omega | (simp only [lnA, List.length_map, List.length_range, true_and, and_true]; (try omega); done) | fail)) only [go_sem, hx, hb, d1, d2, Int.reduceEq, Int.reduceToNat, Nat.reduceAdd, Nat.reduceMul, Nat.reduceEqDiff, ↓reduceIte]
              refine nextW (i + 1, r + r - D) [some 0] ⟨by simp only; omega, by simp only; omega, ?_⟩ (by simp only; omega)
              simp only
              rw [hv, show L.length + 1 - (p + (i + 1)) = f by omega, Nat.add_assoc]
        · rw [if_neg hd, decide_eq_false hd] at hv
          rw [if_neg hd] at d1 d2
          cases b
          · by_cases hz : r + r = 0
            · rw [if_neg (fun h => h.2 hz)] at hv
              rw [hv] at hQ
              simp (maxSteps := 1000000) (disch := (first | omega | (simp only [lnA, List.length_map, List.length_range, true_and, and_true]; (try omega); done) | fail)) only [go_sem, hx, hb, d1, d2, Int.reduceEq, Int.reduceToNat, Nat.reduceAdd, Nat.reduceMul, Nat.reduceEqDiff, ↓reduceIte]
              exact endW [] hQ
            · rw [if_pos ⟨rfl, hz⟩] at hv
              simp (maxSteps := 1000000) (disch := (first | omega | (simp only [lnA, List.length_map, List.length_range, true_and, and_true]; (try omega); done) | fail)) only [go_sem, hx, hb, d1, d2, Int.reduceEq, Int.reduceToNat, Nat.reduceAdd, Nat.reduceMul, Nat.reduceEqDiff, ↓reduceIte]
              refine nextW (i + 1, r + r) [some 0] ⟨by simp only; omega, by simp only; omega, ?_⟩ (by simp only; omega)
              simp only
              rw [hv, show L.length + 1 - (p + (i + 1)) = f by omega, Nat.add_assoc]
          · rw [if_neg (by simp)] at hv
            rw [hv] at hQ
            simp (maxSteps := 1000000) (disch := (first | omega | (simp only [lnA, List.length_map, List.length_range, true_and, and_true]; (try omega); done) | fail)) only [go_sem, hx, hb, d1, d2, Int.reduceEq, Int.reduceToNat, Nat.reduceAdd, Nat.reduceMul, Nat.reduceEqDiff, ↓reduceIte]
            exact endW [] hQ
      · rw [if_neg hl] at hv
        rw [hv] at hQ
        simp (maxSteps := 1000000) (disch := (first | omega | (simp only [lnA, List.length_map, List.length_range, true_and, and_true]; (try omega); done) | fail)) only [go_sem, Int.reduceEq, Int.reduceToNat, Nat.reduceAdd, Nat.reduceMul, Nat.reduceEqDiff, ↓reduceIte]
        exact endW [] hQ
end Go.Proofs.Ytfemchdaoihogaa

/-! The document's powers; is it the document's? -/
namespace Go.Proofs.Ytfemchdaoihogaa
open Go.Eng Go.Vx
set_option linter.unusedSimpArgs false
set_option linter.unusedVariables false
set_option maxRecDepth 100000
theorem refRatioX_fn {L : List Bool} {p P D : Nat} (hD2 : D ≤ 4294967296) (hP2 : P ≤ 4294967296) (hp : p ≤ L.length) (hL : L.length ≤ 1048576) : Fn1 Try.prog 16 [.row 1 (L.map be), .lit (.int .i64 (p : Int)), .lit (.int .i64 (P : Int)), .lit (.int .i64 (D : Int))] [] (out10 p (ratX L P D p)) [] := by
  by_cases h : D = 0 ∨ D < P
  · have e : ratX L P D p = (false, 2, p, false) := by unfold ratX; rw [if_pos h]
    rw [e]
    exact refRatioE_fn (by omega) hp hL
  · exact refRatio_fn (by omega) (by omega) hD2 hp hL
theorem refPower_fn {L : List Bool} {p P D K : Nat} {k : Int} (hD2 : D ≤ 4294967296) (hP2 : P ≤ 4294967296) (hp : p ≤ L.length) (hL : L.length ≤ 1048576) (hk : max 0 k = (K : Int)) (hk1 : k ≤ 9223372036854775807) : Fn1 Try.prog 18 [.row 1 (L.map be), .lit (.int .i64 (p : Int)), .lit (.int .i64 (P : Int)), .lit (.int .i64 (D : Int)), .lit (.int .i64 k)] [] (out10 p (powX L P D K p)) [] := by
  refine fn1_of pl18 (by kernel_rfl) Try.call18 Try.func18 rfl (by kernel_rfl) rfl [.cell 10 32] (by kernel_rfl) fun Q hQ => ?_
  unfold powX at hQ
  by_cases h : D = 0 ∨ D < P
  · rw [if_pos h] at hQ
    by_cases h0 : D = 0
    · simp (maxSteps := 1000000) (disch := (first | omega | (simp only [lnA, List.length_map, List.length_range, true_and, and_true]; (try omega); done) | fail)) only [go_sem, Int.reduceEq, Int.reduceToNat, Nat.reduceAdd, Nat.reduceMul, Nat.reduceEqDiff, ↓reduceIte]
      exact endW [] hQ
    · simp (maxSteps := 1000000) (disch := (first | omega | (simp only [lnA, List.length_map, List.length_range, true_and, and_true]; (try omega); done) | fail)) only [go_sem, Int.reduceEq, Int.reduceToNat, Nat.reduceAdd, Nat.reduceMul, Nat.reduceEqDiff, ↓reduceIte]
      exact endW [] hQ
  · rw [if_neg h] at hQ
    simp (maxSteps := 1000000) (disch := (first | omega | (simp only [lnA, List.length_map, List.length_range, true_and, and_true]; (try omega); done) | fail)) only [go_sem, Int.reduceEq, Int.reduceToNat, Nat.reduceAdd, Nat.reduceMul, Nat.reduceEqDiff, ↓reduceIte]
    refine LoopV_of (X := Nat × Nat) (st := fun z => ([(0, .row 1 (L.map be)), (1, .lit (.int .i64 (p : Int))), (2, .lit (.int .i64 (P : Int))), (3, .lit (.int .i64 (D : Int))), (4, .lit (.int .i64 k)), (10, .ref 0 0 0 0), (11, .lit (.int .i64 ((z.2 : Int) - (p : Int)))), (12, .lit (.int .i64 (z.1 : Int)))], [some (.cells [.lit (.bool false), .lit (.int .i64 0), .lit (.int .i64 0)])]))
      (inv := fun z => z.1 ≤ K ∧ p ≤ z.2 ∧ z.2 ≤ L.length ∧ powR L P D K p = powR L P D (K - z.1) z.2) (m := fun z => K - z.1) (0, p) [some 0] rfl (by simp (disch := (first | omega | (simp only [lnA, List.length_map, List.length_range, true_and, and_true]; (try omega); done) | fail)) only [go_sem, Int.reduceEq, Int.reduceToNat, Nat.reduceAdd, Nat.reduceMul, Nat.reduceEqDiff, ↓reduceIte, true_and, and_true, and_self, List.drop_zero, List.take_length, Nat.le_refl, V.lit.injEq, Value.int.injEq, Value.bool.injEq]; try (first | omega | (simp; done) | (simp; omega))) (by simp (disch := (first | omega | (simp only [lnA, List.length_map, List.length_range, true_and, and_true]; (try omega); done) | fail)) only [go_sem, Int.reduceEq, Int.reduceToNat, Nat.reduceAdd, Nat.reduceMul, Nat.reduceEqDiff, ↓reduceIte, true_and, and_true, and_self, List.drop_zero, List.take_length, Nat.le_refl, V.lit.injEq, Value.int.injEq, Value.bool.injEq]; try (first | omega | (simp; done) | (simp; omega))) ⟨by simp, Nat.le_refl _, hp, rfl⟩ ?_
    rintro ⟨i, q⟩ ⟨hi, hq0, hq, hv⟩
    simp only at hi hq0 hq hv ⊢
    by_cases hiK : i < K
    · obtain ⟨n, hn⟩ : ∃ n, K - i = n + 1 := ⟨K - i - 1, by omega⟩
      rw [hn, powR_succ] at hv
      have hki : k = (K : Int) := by omega
      have hr := refRatio_fn (L := L) (p := q) (P := P) (D := D) (by omega) (by omega) hD2 hq hL
      have hqp : (p : Int) + ((q : Int) - (p : Int)) = (q : Int) := by omega
      rcases ratX_cases (L := L) (p := q) h hq with e | ⟨b, q2, e, hq1, hq2⟩
      · rw [e] at hr hv
        dsimp only [out10] at hr hv
        rw [if_neg (by simp)] at hv
        rw [hv] at hQ
        have h1 : (q : Int) - (p : Int) + ((L.length : Int) - (q : Int)) = (L.length : Int) - (p : Int) := by omega
        simp (maxSteps := 1000000) (disch := (first | omega | (simp only [lnA, List.length_map, List.length_range, true_and, and_true]; (try omega); done) | fail)) only [go_sem, hqp, Int.reduceEq, Int.reduceToNat, Nat.reduceAdd, Nat.reduceMul, Nat.reduceEqDiff, ↓reduceIte]
        refine callV0 (hr) rfl rfl ?_
        simp (maxSteps := 1000000) (disch := (first | omega | (simp only [lnA, List.length_map, List.length_range, true_and, and_true]; (try omega); done) | fail)) only [go_sem, h1, Int.reduceEq, Int.reduceToNat, Nat.reduceAdd, Nat.reduceMul, Nat.reduceEqDiff, ↓reduceIte]
        exact endW [] hQ
      · rw [e] at hr hv
        dsimp only [out10] at hr hv
        have h1 : (q : Int) - (p : Int) + ((q2 : Int) - (q : Int)) = (q2 : Int) - (p : Int) := by omega
        cases b with
        | false =>
          rw [if_neg (by simp)] at hv
          rw [hv] at hQ
          simp (maxSteps := 1000000) (disch := (first | omega | (simp only [lnA, List.length_map, List.length_range, true_and, and_true]; (try omega); done) | fail)) only [go_sem, hqp, Int.reduceEq, Int.reduceToNat, Nat.reduceAdd, Nat.reduceMul, Nat.reduceEqDiff, ↓reduceIte]
          refine callV0 (hr) rfl rfl ?_
          simp (maxSteps := 1000000) (disch := (first | omega | (simp only [lnA, List.length_map, List.length_range, true_and, and_true]; (try omega); done) | fail)) only [go_sem, h1, Int.reduceEq, Int.reduceToNat, Nat.reduceAdd, Nat.reduceMul, Nat.reduceEqDiff, ↓reduceIte]
          exact endW [] hQ
        | true =>
          rw [if_pos rfl] at hv
          simp (maxSteps := 1000000) (disch := (first | omega | (simp only [lnA, List.length_map, List.length_range, true_and, and_true]; (try omega); done) | fail)) only [go_sem, hqp, Int.reduceEq, Int.reduceToNat, Nat.reduceAdd, Nat.reduceMul, Nat.reduceEqDiff, ↓reduceIte]
          refine callV0 (hr) rfl rfl ?_
          simp (maxSteps := 1000000) (disch := (first | omega | (simp only [lnA, List.length_map, List.length_range, true_and, and_true]; (try omega); done) | fail)) only [go_sem, h1, Int.reduceEq, Int.reduceToNat, Nat.reduceAdd, Nat.reduceMul, Nat.reduceEqDiff, ↓reduceIte]
          refine nextW (i + 1, q2) [some 0] ⟨by simp only; omega, by simp only; omega, hq2, ?_⟩ (by simp only; omega)
          simp only
          rw [hv, show K - (i + 1) = n by omega]
    · obtain rfl : i = K := by omega
      rw [Nat.sub_self, powR_zero] at hv
      rw [hv] at hQ
      simp (maxSteps := 1000000) (disch := (first | omega | (simp only [lnA, List.length_map, List.length_range, true_and, and_true]; (try omega); done) | fail)) only [go_sem, Int.reduceEq, Int.reduceToNat, Nat.reduceAdd, Nat.reduceMul, Nat.reduceEqDiff, ↓reduceIte]
      exact endW [] hQ
/-- What flips come to. -/
def okR (L : List Bool) (p : Nat) (r : Bool × Int × Nat × Bool) : Prop := r = (false, 8, L.length, true) ∨ ∃ b e q, r = (b, e, q, false) ∧ e ≠ 8 ∧ p ≤ q ∧ q ≤ L.length
theorem okR_half {L : List Bool} : ∀ k p, p ≤ L.length → okR L p (halfX L k p)
  | 0, p, h => .inr ⟨true, 0, p, by rw [halfX_zero], by decide, Nat.le_refl _, h⟩
  | k + 1, p, h => by
    rw [halfX_succ]
    split
    · split
      · rcases okR_half (L := L) k (p + 1) (by omega) with e | ⟨b, e, q, h1, h2, h3, h4⟩
        · exact .inl e
        · exact .inr ⟨b, e, q, h1, h2, by omega, h4⟩
      · exact .inr ⟨_, _, _, rfl, by decide, by omega, by omega⟩
    · exact .inl rfl
theorem okR_rat {L : List Bool} {P D p : Nat} (hp : p ≤ L.length) : okR L p (ratX L P D p) := by
  by_cases h : D = 0 ∨ D < P
  · refine .inr ⟨false, 2, p, ?_, by decide, Nat.le_refl _, hp⟩
    unfold ratX; rw [if_pos h]
  · rcases ratX_cases (L := L) (p := p) h hp with e | ⟨b, q, e, h1, h2⟩
    · exact .inl e
    · exact .inr ⟨b, 0, q, e, by decide, h1, h2⟩
theorem okR_pow {L : List Bool} {P D K p : Nat} (hp : p ≤ L.length) : okR L p (powX L P D K p) := by
  unfold powX
  by_cases h : D = 0 ∨ D < P
  · rw [if_pos h]
    exact .inr ⟨false, 2, p, rfl, by decide, Nat.le_refl _, hp⟩
  · rw [if_neg h]
    have key : ∀ k p, p ≤ L.length → okR L p (powR L P D k p) := by
      intro k
      induction k with
      | zero => intro p hp; exact .inr ⟨true, 0, p, rfl, by decide, Nat.le_refl _, hp⟩
      | succ k ih =>
        intro p hp
        rw [powR_succ]
        rcases ratX_cases (L := L) (p := p) h hp with e | ⟨b, q, e, h1, h2⟩
        · rw [e]; exact .inl rfl
        · rw [e]
          cases b
          · exact .inr ⟨_, _, _, rfl, by decide, h1, h2⟩
          · rcases ih q h2 with e2 | ⟨b2, e2, q2, h3, h4, h5, h6⟩
            · exact .inl e2
            · exact .inr ⟨b2, e2, q2, h3, h4, by omega, h6⟩
    exact key K p hp
theorem is10_fn {L : List Bool} {p : Nat} {r : Bool × Int × Nat × Bool} (h : okR L p r) (hL : L.length ≤ 1048576) (hp : p ≤ L.length) : Fn1 Try.prog 22 [tpP L r.2.2.1 r.2.2.2, .lit (.bool r.1), .lit (.int .i64 r.2.1), .lit (.int .i64 (p : Int)), out10 p r] [] (.lit (.bool true)) [] := by
  refine fn1_of pl22 (by kernel_rfl) Try.call22 Try.func22 rfl (by kernel_rfl) rfl [.tmp 10] (by kernel_rfl) fun Q hQ => ?_
  have h1 : ∀ q : Nat, (p : Int) + ((q : Int) - (p : Int)) = (q : Int) := fun q => by omega
  rcases h with e | ⟨b, e, q, e1, h2, h3, h4⟩
  · subst e
    simp (maxSteps := 1000000) (disch := (first | omega | (simp only [lnA, List.length_map, List.length_range, true_and, and_true]; (try omega); done) | fail)) only [go_sem, beq_self_eq_true, Int.reduceEq, Int.reduceToNat, Nat.reduceAdd, Nat.reduceMul, Nat.reduceEqDiff, ↓reduceIte]
    refine callV0 (readT_fn (L := L) (p := L.length) (d := true)) rfl rfl ?_
    simp (maxSteps := 1000000) (disch := (first | omega | (simp only [lnA, List.length_map, List.length_range, true_and, and_true]; (try omega); done) | fail)) only [go_sem, h1, beq_self_eq_true, decide_true, Int.reduceEq, Int.reduceToNat, Nat.reduceAdd, Nat.reduceMul, Nat.reduceEqDiff, ↓reduceIte]
    refine callV0 (deadT_fn (L := L) (p := L.length) (d := true)) rfl rfl ?_
    simp (maxSteps := 1000000) (disch := (first | omega | (simp only [lnA, List.length_map, List.length_range, true_and, and_true]; (try omega); done) | fail)) only [go_sem, beq_self_eq_true, decide_true, Int.reduceEq, Int.reduceToNat, Nat.reduceAdd, Nat.reduceMul, Nat.reduceEqDiff, ↓reduceIte]
    exact endW [] hQ
  · subst e1
    simp (maxSteps := 1000000) (disch := (first | omega | (simp only [lnA, List.length_map, List.length_range, true_and, and_true]; (try omega); done) | fail)) only [go_sem, beq_self_eq_true, decide_true, Int.reduceEq, Int.reduceToNat, Nat.reduceAdd, Nat.reduceMul, Nat.reduceEqDiff, ↓reduceIte]
    refine callV0 (readT_fn (L := L) (p := q) (d := false)) rfl rfl ?_
    simp (maxSteps := 1000000) (disch := (first | omega | (simp only [lnA, List.length_map, List.length_range, true_and, and_true]; (try omega); done) | fail)) only [go_sem, h1, beq_self_eq_true, decide_true, Int.reduceEq, Int.reduceToNat, Nat.reduceAdd, Nat.reduceMul, Nat.reduceEqDiff, ↓reduceIte]
    refine callV0 (deadT_fn (L := L) (p := q) (d := false)) rfl rfl ?_
    simp (maxSteps := 1000000) (disch := (first | omega | (simp only [lnA, List.length_map, List.length_range, true_and, and_true]; (try omega); done) | fail)) only [go_sem, beq_self_eq_true, decide_true, decide_eq_false h2, Int.reduceEq, Int.reduceToNat, Nat.reduceAdd, Nat.reduceMul, Nat.reduceEqDiff, ↓reduceIte]
    exact endW [] hQ
end Go.Proofs.Ytfemchdaoihogaa
