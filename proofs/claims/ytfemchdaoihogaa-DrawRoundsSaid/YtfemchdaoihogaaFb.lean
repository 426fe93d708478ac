import Derived.Test.YtfemchdaoihogaaFa
/-! Package flip: powers; what coins count. -/
namespace Go.Proofs.Ytfemchdaoihogaa
open Go.Eng Go.Vx
set_option linter.unusedSimpArgs false
set_option linter.unusedVariables false
set_option maxRecDepth 100000
theorem ratR_cases {L : List Bool} {D : Nat} : ∀ f r p, p ≤ L.length → ratR L D f r p = (false, 8, L.length, true) ∨ ∃ b q, ratR L D f r p = (b, 0, q, false) ∧ p < q ∧ q ≤ L.length
  | 0, _, _, _ => .inl rfl
  | f + 1, r, p, hp => by
    rw [ratR_succ]
    by_cases h : p < L.length
    · rw [if_pos h]
      by_cases hc : L.getD p false = decide (D ≤ r + r) ∧ (if D ≤ r + r then r + r - D else r + r) ≠ 0
      · rw [if_pos hc]
        rcases ratR_cases f (if D ≤ r + r then r + r - D else r + r) (p + 1) h with e | ⟨b, q, e, h1, h2⟩
        · exact .inl e
        · exact .inr ⟨b, q, e, by omega, h2⟩
      · rw [if_neg hc]
        exact .inr ⟨_, _, rfl, by omega, h⟩
    · rw [if_neg h]
      exact .inl rfl
def goodB (P D : Nat) : Prop := ¬ (D = 0 ∨ D < P)
theorem ratX_cases {L : List Bool} {P D p : Nat} (hg : goodB P D) (hp : p ≤ L.length) : ratX L P D p = (false, 8, L.length, true) ∨ ∃ b q, ratX L P D p = (b, 0, q, false) ∧ p ≤ q ∧ q ≤ L.length := by
  unfold ratX
  rw [if_neg hg]
  split
  · exact .inr ⟨_, _, rfl, Nat.le_refl _, hp⟩
  · split
    · exact .inr ⟨_, _, rfl, Nat.le_refl _, hp⟩
    · rcases ratR_cases (L := L) (D := D) (L.length + 1 - p) P p hp with e | ⟨b, q, e, h1, h2⟩
      · exact .inl e
      · exact .inr ⟨b, q, e, by omega, h2⟩
def powR (L : List Bool) (P D : Nat) : Nat → Nat → Bool × Int × Nat × Bool
  | 0, p => (true, 0, p, false)
  | k + 1, p => if (ratX L P D p).1 then powR L P D k (ratX L P D p).2.2.1 else ratX L P D p
theorem powR_zero (L : List Bool) (P D p : Nat) : powR L P D 0 p = (true, 0, p, false) := rfl
theorem powR_succ (L : List Bool) (P D k p : Nat) : powR L P D (k + 1) p = if (ratX L P D p).1 then powR L P D k (ratX L P D p).2.2.1 else ratX L P D p := rfl
def powX (L : List Bool) (P D K p : Nat) : Bool × Int × Nat × Bool := if D = 0 ∨ D < P then (false, 2, p, false) else powR L P D K p
theorem power_fn {L : List Bool} {P D p K : Nat} {k : Int} (hL : L.length ≤ 1048576) (hp : p ≤ L.length) (hP : (wg P).length ≤ 500000) (hD1 : (wg D).length ≤ 500000) (hk : max 0 k = (K : Int)) (hK : K < 9223372036854775807) : Fn1 Try.prog 17 [.ref 0 0 0 0, NV P, NV D, .lit (.int .i64 k)] [some (tpC L p false)]
    (.tup [.lit (.bool (powX L P D K p).1), .lit (.int .i64 (powX L P D K p).2.1)]) [some (tpC L (powX L P D K p).2.2.1 (powX L P D K p).2.2.2)] := by
  refine fn1_of pl17 (by kernel_rfl) Try.call17 Try.func17 rfl (by kernel_rfl) rfl [.tmp 8, .tmp 9] (by kernel_rfl) fun Q hQ => ?_
  unfold powX at hQ
  simp (maxSteps := 1000000) (disch := (first | omega | (simp only [lnA, List.length_map, List.length_range, true_and, and_true]; (try omega); done) | fail)) only [go_sem, Int.reduceEq, Int.reduceToNat, Nat.reduceAdd, Nat.reduceMul, Nat.reduceEqDiff, ↓reduceIte]
  refine callV0 (good_fn (P := P) (D := D) (by omega) (by omega)) rfl rfl ?_
  by_cases h1 : D = 0 ∨ D < P
  · rw [decide_eq_false (fun h => h h1)]
    rw [if_pos h1] at hQ
    simp (maxSteps := 1000000) (disch := (first | omega | (simp only [lnA, List.length_map, List.length_range, true_and, and_true]; (try omega); done) | fail)) only [go_sem, Int.reduceEq, Int.reduceToNat, Nat.reduceAdd, Nat.reduceMul, Nat.reduceEqDiff, ↓reduceIte]
    exact endW [some 0] hQ
  · rw [decide_eq_true h1]
    rw [if_neg h1] at hQ
    simp (maxSteps := 1000000) (disch := (first | omega | (simp only [lnA, List.length_map, List.length_range, true_and, and_true]; (try omega); done) | fail)) only [go_sem, hk, Int.reduceEq, Int.reduceToNat, Nat.reduceAdd, Nat.reduceMul, Nat.reduceEqDiff, ↓reduceIte]
    refine LoopV_of (X := Nat × Nat) (st := fun z => ([(0, .ref 0 0 0 0), (5, .ref 1 0 0 0), (6, .ref 2 0 0 0), (17, .lit (.int .i64 (K : Int))), (18, .lit (.int .i64 (z.1 : Int)))], [some (tpC L z.2 false), some (.cells [.row 1 ((nl (wg P)).map (ie .u64))]), some (.cells [.row 1 ((nl (wg D)).map (ie .u64))])]))
      (inv := fun z => z.1 ≤ K ∧ z.2 ≤ L.length ∧ powR L P D K p = powR L P D (K - z.1) z.2) (m := fun z => K - z.1) (0, p) [some 0, some 1, some 2] rfl (by simp (disch := (first | omega | (simp only [lnA, List.length_map, List.length_range, true_and, and_true]; (try omega); done) | fail)) only [go_sem, Int.reduceEq, Int.reduceToNat, Nat.reduceAdd, Nat.reduceMul, Nat.reduceEqDiff, ↓reduceIte, true_and, and_true, and_self, List.drop_zero, List.take_length, Nat.le_refl, V.lit.injEq, Value.int.injEq, Value.bool.injEq]; try (first | omega | (simp; done) | (simp; omega))) (by simp (disch := (first | omega | (simp only [lnA, List.length_map, List.length_range, true_and, and_true]; (try omega); done) | fail)) only [go_sem, Int.reduceEq, Int.reduceToNat, Nat.reduceAdd, Nat.reduceMul, Nat.reduceEqDiff, ↓reduceIte, true_and, and_true, and_self, List.drop_zero, List.take_length, Nat.le_refl, V.lit.injEq, Value.int.injEq, Value.bool.injEq]; try (first | omega | (simp; done) | (simp; omega))) ⟨by simp, hp, rfl⟩ ?_
    rintro ⟨i, q⟩ ⟨hi, hq, hv⟩
    simp only at hi hq hv ⊢
    by_cases hiK : i < K
    · obtain ⟨n, hn⟩ : ∃ n, K - i = n + 1 := ⟨K - i - 1, by omega⟩
      rw [hn, powR_succ] at hv
      have hr := ratio_fn (L := L) (P := P) (D := D) (p := q) hL hq hP hD1
      rcases ratX_cases (L := L) (p := q) h1 hq with e | ⟨b, q2, e, hq1, hq2⟩
      · rw [e] at hr hv
        rw [hv] at hQ
        simp (maxSteps := 1000000) (disch := (first | omega | (simp only [lnA, List.length_map, List.length_range, true_and, and_true]; (try omega); done) | fail)) only [go_sem, Int.reduceEq, Int.reduceToNat, Nat.reduceAdd, Nat.reduceMul, Nat.reduceEqDiff, ↓reduceIte]
        refine callW [some 0] [] (hr) ?_
        simp (maxSteps := 1000000) (disch := (first | omega | (simp only [lnA, List.length_map, List.length_range, true_and, and_true]; (try omega); done) | fail)) only [go_sem, Int.reduceEq, Int.reduceToNat, Nat.reduceAdd, Nat.reduceMul, Nat.reduceEqDiff, ↓reduceIte]
        exact endW [some 0] hQ
      · rw [e] at hr hv
        dsimp only at hr hv
        cases b with
        | false =>
          rw [if_neg (by simp)] at hv
          rw [hv] at hQ
          simp (maxSteps := 1000000) (disch := (first | omega | (simp only [lnA, List.length_map, List.length_range, true_and, and_true]; (try omega); done) | fail)) only [go_sem, Int.reduceEq, Int.reduceToNat, Nat.reduceAdd, Nat.reduceMul, Nat.reduceEqDiff, ↓reduceIte]
          refine callW [some 0] [] (hr) ?_
          simp (maxSteps := 1000000) (disch := (first | omega | (simp only [lnA, List.length_map, List.length_range, true_and, and_true]; (try omega); done) | fail)) only [go_sem, Int.reduceEq, Int.reduceToNat, Nat.reduceAdd, Nat.reduceMul, Nat.reduceEqDiff, ↓reduceIte]
          exact endW [some 0] hQ
        | true =>
          rw [if_pos rfl] at hv
          simp (maxSteps := 1000000) (disch := (first | omega | (simp only [lnA, List.length_map, List.length_range, true_and, and_true]; (try omega); done) | fail)) only [go_sem, Int.reduceEq, Int.reduceToNat, Nat.reduceAdd, Nat.reduceMul, Nat.reduceEqDiff, ↓reduceIte]
          refine callW [some 0] [] (hr) ?_
          simp (maxSteps := 1000000) (disch := (first | omega | (simp only [lnA, List.length_map, List.length_range, true_and, and_true]; (try omega); done) | fail)) only [go_sem, Int.reduceEq, Int.reduceToNat, Nat.reduceAdd, Nat.reduceMul, Nat.reduceEqDiff, ↓reduceIte]
          refine nextW (i + 1, q2) [some 0, some 1, some 2] ⟨by simp only; omega, hq2, ?_⟩ (by simp only; omega)
          simp only
          rw [hv, show K - (i + 1) = n by omega]
    · obtain rfl : i = K := by omega
      rw [Nat.sub_self, powR_zero] at hv
      rw [hv] at hQ
      simp (maxSteps := 1000000) (disch := (first | omega | (simp only [lnA, List.length_map, List.length_range, true_and, and_true]; (try omega); done) | fail)) only [go_sem, Int.reduceEq, Int.reduceToNat, Nat.reduceAdd, Nat.reduceMul, Nat.reduceEqDiff, ↓reduceIte]
      exact endW [some 0] hQ
theorem third_fn {L : List Bool} (hL : L.length ≤ 1048576) : Fn1 Try.prog 46 [.row 1 (L.map be)] [] (.tup [.lit (.bool (ratX L 1 3 0).1), .lit (.int .i64 ((ratX L 1 3 0).2.2.1 : Int)), .lit (.int .i64 (ratX L 1 3 0).2.1)]) [] := by
  refine fn1_of pl46 (by kernel_rfl) Try.call46 Try.func46 rfl (by kernel_rfl) rfl [.tmp 2, .tmp 3, .tmp 4] (by kernel_rfl) fun Q hQ => ?_
  have w1 : (wg 1).length ≤ 500000 := Nat.le_trans (wg_one (by decide)) (by decide)
  have w3 : (wg 3).length ≤ 500000 := Nat.le_trans (wg_one (by decide)) (by decide)
  have hr := ratio_fn (L := L) (P := 1) (D := 3) (p := 0) hL (by omega) w1 w3
  generalize ratX L 1 3 0 = r at *
  simp (maxSteps := 1000000) (disch := (first | omega | (simp only [lnA, List.length_map, List.length_range, true_and, and_true]; (try omega); done) | fail)) only [go_sem, Int.reduceEq, Int.reduceToNat, Nat.reduceAdd, Nat.reduceMul, Nat.reduceEqDiff, ↓reduceIte]
  refine callW [] [] (newT_fn (L := L) hL) ?_
  simp (maxSteps := 1000000) (disch := (first | omega | (simp only [lnA, List.length_map, List.length_range, true_and, and_true]; (try omega); done) | fail)) only [go_sem, Int.reduceEq, Int.reduceToNat, Nat.reduceAdd, Nat.reduceMul, Nat.reduceEqDiff, ↓reduceIte]
  refine callW [] [1] (of1_fn (x := 1) (by decide)) ?_
  simp (maxSteps := 1000000) (disch := (first | omega | (simp only [lnA, List.length_map, List.length_range, true_and, and_true]; (try omega); done) | fail)) only [go_sem, Int.reduceEq, Int.reduceToNat, Nat.reduceAdd, Nat.reduceMul, Nat.reduceEqDiff, ↓reduceIte]
  refine callW [] [2] (of1_fn (x := 3) (by decide)) ?_
  simp (maxSteps := 1000000) (disch := (first | omega | (simp only [lnA, List.length_map, List.length_range, true_and, and_true]; (try omega); done) | fail)) only [go_sem, Int.reduceEq, Int.reduceToNat, Nat.reduceAdd, Nat.reduceMul, Nat.reduceEqDiff, ↓reduceIte]
  refine callW [some 0] [] (hr) ?_
  simp (maxSteps := 1000000) (disch := (first | omega | (simp only [lnA, List.length_map, List.length_range, true_and, and_true]; (try omega); done) | fail)) only [go_sem, Int.reduceEq, Int.reduceToNat, Nat.reduceAdd, Nat.reduceMul, Nat.reduceEqDiff, ↓reduceIte]
  refine callT (readT_fn (L := L) (p := r.2.2.1) (d := r.2.2.2)) ?_
  simp (maxSteps := 1000000) (disch := (first | omega | (simp only [lnA, List.length_map, List.length_range, true_and, and_true]; (try omega); done) | fail)) only [go_sem, Int.reduceEq, Int.reduceToNat, Nat.reduceAdd, Nat.reduceMul, Nat.reduceEqDiff, ↓reduceIte]
  exact endW [] hQ
theorem awake10_fn : Fn1 Try.prog 8 [] [] (.lit (.bool true)) [] := by
  refine fn1_of pl8 (by kernel_rfl) Try.call8 Try.func8 rfl (by kernel_rfl) rfl [.tmp 0] (by kernel_rfl) fun Q hQ => ?_
  have h1 := third_fn (L := [true, true]) (by decide)
  have h2 := third_fn (L := [false, false, true]) (by decide)
  rw [show ratX [true, true] 1 3 0 = (false, 0, 1, false) by decide +kernel] at h1
  rw [show ratX [false, false, true] 1 3 0 = (true, 0, 2, false) by decide +kernel] at h2
  simp (maxSteps := 1000000) (disch := (first | omega | (simp only [lnA, List.length_map, List.length_range, true_and, and_true]; (try omega); done) | fail)) only [go_sem, Int.reduceEq, Int.reduceToNat, Nat.reduceAdd, Nat.reduceMul, Nat.reduceEqDiff, ↓reduceIte]
  refine callW [] [0] (h1) ?_
  simp (maxSteps := 1000000) (disch := (first | omega | (simp only [lnA, List.length_map, List.length_range, true_and, and_true]; (try omega); done) | fail)) only [go_sem, Int.reduceEq, Int.reduceToNat, Nat.reduceAdd, Nat.reduceMul, Nat.reduceEqDiff, ↓reduceIte]
  refine callW [] [1] (h2) ?_
  simp (maxSteps := 1000000) (disch := (first | omega | (simp only [lnA, List.length_map, List.length_range, true_and, and_true]; (try omega); done) | fail)) only [go_sem, Int.reduceEq, Int.reduceToNat, Nat.reduceAdd, Nat.reduceMul, Nat.reduceEqDiff, ↓reduceIte]
  exact endW [] hQ
end Go.Proofs.Ytfemchdaoihogaa
