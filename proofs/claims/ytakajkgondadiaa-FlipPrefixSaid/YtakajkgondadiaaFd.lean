import Derived.Test.YtakajkgondadiaaFc
/-! FlipPrefix: the law. -/
namespace Go.Proofs.Ytakajkgondadiaa
open Go.Eng Go.Vx
set_option linter.unusedSimpArgs false
set_option linter.unusedVariables false
set_option maxRecDepth 100000
theorem flipPrefix_fn {L0 M0 : List Bool} {a b c : Int} (hL0 : L0.length ≤ 9223372036854775807) (hM0 : M0.length ≤ 9223372036854775807) : Fn1 Try.prog 5 [.row 1 (L0.map be), .row 1 (M0.map be), .agg [.lit (.int .i64 a), .lit (.int .i64 b), .lit (.int .i64 c)]] [] (.lit (.bool true)) [] := by
  obtain ⟨D, hD⟩ : ∃ m : Nat, 1 + b % 1024 = (m : Int) := ⟨(1 + b % 1024).toNat, by omega⟩
  have hD1 : 1 ≤ D := by omega
  have hD2 : D ≤ 1024 := by omega
  obtain ⟨A, hA⟩ : ∃ m : Nat, a % 4096 = (m : Int) := ⟨(a % 4096).toNat, by omega⟩
  have hA2 : A < 4096 := by omega
  have hPm : (A : Int) % ((D : Int) + 1) = ((A % (D + 1) : Nat) : Int) := by simp
  have hP : A % (D + 1) < D + 1 := Nat.mod_lt _ (by omega)
  generalize A % (D + 1) = P at *
  obtain ⟨K, hK⟩ : ∃ m : Nat, max 0 (min c 9) = (m : Int) := ⟨(max 0 (min c 9)).toNat, by omega⟩
  have hK2 : K ≤ 9 := by omega
  have hg : goodB P D := by unfold goodB; omega
  refine fn1_of pl5 (by kernel_rfl) Try.call5 Try.func5 rfl (by kernel_rfl) rfl [.tmp 6] (by kernel_rfl) fun Q hQ => ?_
  simp (maxSteps := 1000000) (disch := (first | omega | (simp only [List.length_append, List.length_set, List.length_cons, List.length_nil, List.length_replicate, List.length_take, List.length_drop, List.length_map, List.length_range, true_and, and_true]; (try omega); done) | fail)) only [go_sem, Int.reduceEq, Int.reduceToNat, Nat.reduceAdd, Nat.reduceMul, Nat.reduceEqDiff, ↓reduceIte]
  refine callV0 (awake10_fn) rfl rfl ?_
  simp (maxSteps := 1000000) (disch := (first | omega | (simp only [List.length_append, List.length_set, List.length_cons, List.length_nil, List.length_replicate, List.length_take, List.length_drop, List.length_map, List.length_range, true_and, and_true]; (try omega); done) | fail)) only [go_sem, Int.reduceEq, Int.reduceToNat, Nat.reduceAdd, Nat.reduceMul, Nat.reduceEqDiff, ↓reduceIte]
  refine callV0 (few9_fn (n := 200) hL0 (by decide)) rfl rfl ?_
  simp (maxSteps := 1000000) (disch := (first | omega | (simp only [List.length_append, List.length_set, List.length_cons, List.length_nil, List.length_replicate, List.length_take, List.length_drop, List.length_map, List.length_range, true_and, and_true]; (try omega); done) | fail)) only [go_sem, Int.reduceEq, Int.reduceToNat, Nat.reduceAdd, Nat.reduceMul, Nat.reduceEqDiff, ↓reduceIte]
  refine callV0 (few9_fn (n := 50) hM0 (by decide)) rfl rfl ?_
  have hL : (L0.take 200).length ≤ 200 := by simp; omega
  have hM : (M0.take 50).length ≤ 50 := by simp; omega
  generalize L0.take 200 = L at *
  generalize M0.take 50 = M at *
  have hx : powX L P D K 0 = powR L P D K 0 := if_neg hg
  have hp0 := fplay_fn (L := L) (P := P) (D := D) (K := K) (by omega) (by omega) (by omega) (by omega)
  rw [hx] at hp0
  simp (maxSteps := 1000000) (disch := (first | omega | (simp only [List.length_append, List.length_set, List.length_cons, List.length_nil, List.length_replicate, List.length_take, List.length_drop, List.length_map, List.length_range, true_and, and_true]; (try omega); done) | fail)) only [go_sem, hD, hA, hPm, hK, Int.reduceEq, Int.reduceToNat, Nat.reduceAdd, Nat.reduceMul, Nat.reduceEqDiff, ↓reduceIte]
  rcases powR_cases (L := L) hg K 0 (by omega) with e | ⟨r, k, e, -, hk⟩
  · rw [e] at hp0
    refine callW [some 2, some 1, some 3] [] (hp0) ?_
    simp (maxSteps := 1000000) (disch := (first | omega | (simp only [List.length_append, List.length_set, List.length_cons, List.length_nil, List.length_replicate, List.length_take, List.length_drop, List.length_map, List.length_range, true_and, and_true]; (try omega); done) | fail)) only [go_sem, decide_true, Int.reduceEq, Int.reduceToNat, Nat.reduceAdd, Nat.reduceMul, Nat.reduceEqDiff, ↓reduceIte]
    exact endW [] hQ
  · rw [e] at hp0
    have hl : (L.take k ++ M).length ≤ 1048576 := by rw [List.length_append, List.length_take]; omega
    have hp1 := fplay_fn (L := L.take k ++ M) (P := P) (D := D) (K := K) hl (by omega) (by omega) (by omega)
    have hx1 : powX (L.take k ++ M) P D K 0 = powR (L.take k ++ M) P D K 0 := if_neg hg
    have hlk : (L.take k).length = k := by rw [List.length_take]; omega
    have ht : (L.take k ++ M).take k = L.take k := by rw [List.take_append_of_le_length (by omega), List.take_take, Nat.min_self]
    rw [hx1, powR_pre hg K 0 r k (by omega) e ht (by rw [List.length_append]; omega)] at hp1
    refine callW [some 2, some 1, some 3] [] (hp0) ?_
    simp (maxSteps := 1000000) (disch := (first | omega | (simp only [List.length_append, List.length_set, List.length_cons, List.length_nil, List.length_replicate, List.length_take, List.length_drop, List.length_map, List.length_range, true_and, and_true]; (try omega); done) | fail)) only [go_sem, decide_true, Int.reduceEq, Int.reduceToNat, Nat.reduceAdd, Nat.reduceMul, Nat.reduceEqDiff, ↓reduceIte]
    refine callW [some 2, some 1, some 3] [6] (hp1) ?_
    cases r
    all_goals
      by_cases hk0 : 0 < k
      · have hk1 : (k : Int) - 1 = ((k - 1 : Nat) : Int) := by omega
        have hlk1 : (L.take (k - 1)).length = k - 1 := by rw [List.length_take]; omega
        have hpf := fplay_fn (L := L.take (k - 1)) (P := P) (D := D) (K := K) (by omega) (by omega) (by omega) (by omega)
        have hx2 : powX (L.take (k - 1)) P D K 0 = powR (L.take (k - 1)) P D K 0 := if_neg hg
        rw [hx2, powR_few hg K 0 _ k (by omega) e (by rw [hlk1]) (by omega)] at hpf
        simp (maxSteps := 1000000) (disch := (first | omega | (simp only [List.length_append, List.length_set, List.length_cons, List.length_nil, List.length_replicate, List.length_take, List.length_drop, List.length_map, List.length_range, true_and, and_true]; (try omega); done) | fail)) only [go_sem, decide_true, hk1, bne_self_eq_false, Int.reduceEq, Int.reduceToNat, Nat.reduceAdd, Nat.reduceMul, Nat.reduceEqDiff, ↓reduceIte]
        refine callW [some 2, some 1, some 3] [] (hpf) ?_
        simp (maxSteps := 1000000) (disch := (first | omega | (simp only [List.length_append, List.length_set, List.length_cons, List.length_nil, List.length_replicate, List.length_take, List.length_drop, List.length_map, List.length_range, true_and, and_true]; (try omega); done) | fail)) only [go_sem, decide_true, Int.reduceEq, Int.reduceToNat, Nat.reduceAdd, Nat.reduceMul, Nat.reduceEqDiff, ↓reduceIte]
        exact endW [] hQ
      · simp (maxSteps := 1000000) (disch := (first | omega | (simp only [List.length_append, List.length_set, List.length_cons, List.length_nil, List.length_replicate, List.length_take, List.length_drop, List.length_map, List.length_range, true_and, and_true]; (try omega); done) | fail)) only [go_sem, decide_true, bne_self_eq_false, Int.reduceEq, Int.reduceToNat, Nat.reduceAdd, Nat.reduceMul, Nat.reduceEqDiff, ↓reduceIte]
        exact endW [] hQ
end Go.Proofs.Ytakajkgondadiaa
