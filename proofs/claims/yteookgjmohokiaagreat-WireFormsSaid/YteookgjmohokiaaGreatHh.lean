import Derived.Test.YteookgjmohokiaaGreatHg
import Derived.Test.YteookgjmohokiaaGreatHf
import Derived.Test.YteookgjmohokiaaGreatWi
import Derived.Test.YteookgjmohokiaaGreatWc
/-! The document's registers, written. -/
namespace Go.Proofs.YteookgjmohokiaaGreat
open Go.Eng Go.Vx
set_option linter.unusedSimpArgs false
set_option linter.unusedVariables false
set_option maxRecDepth 100000
theorem refPutO_fn {L : List Bool} {n m : Nat} (hL : L.length ≤ 1099511627776) (hn : n < 18446744073709551616) (hm : m ≤ 64) (hf : n < 2 ^ m) (hm1 : 1 ≤ m) : Fn1 Tryz.prog 7 [.row 1 (L.map be), .lit (.int .u64 n), .lit (.int .i64 m)] []
    (.tup [.sl 0 1 0 (L.length + m), .lit (.int .i64 0)]) [some (.row 1 ((L ++ numBits n m).map be))] := by
  refine fn1N_of pl7 (by kernel_rfl) Tryz.call7 Tryz.func7 rfl (by kernel_rfl) rfl [.tmp 6, .tmp 7] (by kernel_rfl) fun Q hQ => ?_
  simp (maxSteps := 1000000) (disch := (first | omega | (simp only [lnA, List.length_map, List.length_range, true_and, and_true]; (try omega); done) | fail)) only [go_sem, Int.reduceEq, Int.reduceToNat, Nat.reduceAdd, Nat.reduceMul, Nat.reduceEqDiff, ↓reduceIte]
  refine LoopV_of (X := Nat) (st := fun i => ([(0, .row 1 (L.map be)), (1, .lit (.int .u64 ((n / 2 ^ i : Nat) : Int))), (2, .lit (.int .i64 m)), (8, .sl 0 1 0 i), (9, .lit (.int .i64 (i : Int)))], [some (.row 1 ((numBits n i).map be))]))
    (inv := fun i => i ≤ m) (m := fun i => m - i) 0 [none] rfl (by simp (maxSteps := 1000000) (disch := (first | omega | (simp only [lnA, List.length_map, List.length_range, true_and, and_true]; (try omega); done) | fail)) only [go_sem, Int.reduceEq, Int.reduceToNat, Nat.reduceAdd, Nat.reduceMul, Nat.reduceEqDiff, ↓reduceIte]; simp [numBits]) (by simp (maxSteps := 1000000) (disch := (first | omega | (simp only [lnA, List.length_map, List.length_range, true_and, and_true]; (try omega); done) | fail)) only [go_sem, Int.reduceEq, Int.reduceToNat, Nat.reduceAdd, Nat.reduceMul, Nat.reduceEqDiff, ↓reduceIte]; simp) (Nat.zero_le _) ?_
  intro i hi
  have hnl := numBits_len n i
  have htk : List.take i (numBits n i) = numBits n i := List.take_of_length_le (Nat.le_of_eq hnl)
  by_cases him : i < m
  · have hle : n / 2 ^ i ≤ n := Nat.div_le_self _ _
    have e1 := numBits_succ n i
    have e2 : n / 2 ^ (i + 1) = n / 2 ^ i / 2 := by rw [Nat.pow_succ, ← Nat.div_div_eq_div_mul]
    generalize hx : n / 2 ^ i = x at *
    simp (maxSteps := 1000000) (disch := (first | omega | (simp only [lnA, List.length_map, List.length_range, true_and, and_true]; (try omega); done) | fail)) only [go_sem, htk, Int.reduceEq, Int.reduceToNat, Nat.reduceAdd, Nat.reduceMul, Nat.reduceEqDiff, ↓reduceIte]
    refine NextV_of (i + 1) [some 2] rfl ?_ ?_ (by omega) (by omega)
    · dsimp only
      rw [e1, show decide (x % 2 = 1) = decide ((x : Int) % 2 = 1) by rw [decide_eq_decide]; omega]
      (simp (disch := (first | omega | (simp only [lnA, List.length_map, List.length_range, true_and, and_true]; (try omega); done) | fail)) only [go_sem, Int.reduceEq, Int.reduceToNat, Nat.reduceAdd, Nat.reduceMul, Nat.reduceEqDiff, ↓reduceIte, true_and, and_true, and_self, List.drop_zero, List.take_length, Nat.le_refl, V.lit.injEq, Value.int.injEq, Value.bool.injEq]; try (first | omega | (simp; done) | (simp; omega)))
    · dsimp only
      rw [e2]
      (simp (disch := (first | omega | (simp only [lnA, List.length_map, List.length_range, true_and, and_true]; (try omega); done) | fail)) only [go_sem, Int.reduceEq, Int.reduceToNat, Nat.reduceAdd, Nat.reduceMul, Nat.reduceEqDiff, ↓reduceIte, true_and, and_true, and_self, List.drop_zero, List.take_length, Nat.le_refl, V.lit.injEq, Value.int.injEq, Value.bool.injEq]; try (first | omega | (simp; done) | (simp; omega)))
  · obtain rfl : i = m := by omega
    rw [Nat.div_eq_of_lt hf]
    simp (maxSteps := 1000000) (disch := (first | omega | (simp only [lnA, List.length_map, List.length_range, true_and, and_true]; (try omega); done) | fail)) only [go_sem, htk, Int.reduceEq, Int.reduceToNat, Nat.reduceAdd, Nat.reduceMul, Nat.reduceEqDiff, ↓reduceIte]
    rw [hnl]
    exact endW [some 3] hQ
/-- A number of no bits. -/
theorem refPutZ_fn {L : List Bool} (hL : L.length ≤ 1099511627776) (h0 : 1 ≤ L.length) : Fn1 Tryz.prog 7 [.row 1 (L.map be), .lit (.int .u64 0), .lit (.int .i64 0)] []
    (.tup [.sl 0 1 0 L.length, .lit (.int .i64 0)]) [some (.row 1 (L.map be))] := by
  refine fn1N_of pl7 (by kernel_rfl) Tryz.call7 Tryz.func7 rfl (by kernel_rfl) rfl [.tmp 6, .tmp 7] (by kernel_rfl) fun Q hQ => ?_
  simp (maxSteps := 1000000) (disch := (first | omega | (simp only [lnA, List.length_map, List.length_range, true_and, and_true]; (try omega); done) | fail)) only [go_sem, Int.reduceEq, Int.reduceToNat, Nat.reduceAdd, Nat.reduceMul, Nat.reduceEqDiff, ↓reduceIte]
  refine LoopV_of (X := Nat) (st := fun i => ([(0, .row 1 (L.map be)), (1, .lit (.int .u64 0)), (2, .lit (.int .i64 0)), (8, .lit (.slice none 0 0)), (9, .lit (.int .i64 0))], []))
    (inv := fun i => True) (m := fun i => 0) 0 [] rfl (by simp (disch := (first | omega | (simp only [lnA, List.length_map, List.length_range, true_and, and_true]; (try omega); done) | fail)) only [go_sem, Int.reduceEq, Int.reduceToNat, Nat.reduceAdd, Nat.reduceMul, Nat.reduceEqDiff, ↓reduceIte, true_and, and_true, and_self, List.drop_zero, List.take_length, Nat.le_refl, V.lit.injEq, Value.int.injEq, Value.bool.injEq]; try (first | omega | (simp; done) | (simp; omega))) (by simp (disch := (first | omega | (simp only [lnA, List.length_map, List.length_range, true_and, and_true]; (try omega); done) | fail)) only [go_sem, Int.reduceEq, Int.reduceToNat, Nat.reduceAdd, Nat.reduceMul, Nat.reduceEqDiff, ↓reduceIte, true_and, and_true, and_self, List.drop_zero, List.take_length, Nat.le_refl, V.lit.injEq, Value.int.injEq, Value.bool.injEq]; try (first | omega | (simp; done) | (simp; omega))) trivial ?_
  intro i hi
  simp (maxSteps := 1000000) (disch := (first | omega | (simp only [lnA, List.length_map, List.length_range, true_and, and_true]; (try omega); done) | fail)) only [go_sem, Int.reduceEq, Int.reduceToNat, Nat.reduceAdd, Nat.reduceMul, Nat.reduceEqDiff, ↓reduceIte]
  rw [List.append_nil]
  exact endW [some 2] hQ
theorem bl_rec {n : Nat} (h : 1 ≤ n) : bl n = bl (n / 2) + 1 := by
  by_cases h2 : 2 ≤ n
  · exact bl_half h2
  · obtain rfl : n = 1 := by omega
    decide
theorem long17_fn {n : Nat} (hn : n < 9223372036854775807) : Fn1 Tryz.prog 42 [.lit (.int .i64 (n : Int))] [] (.lit (.int .i64 (bl n : Int))) [] := by
  have hb2 := bl_le_of (n := n) (k := 64) (by omega)
  refine fn1N_of pl42 (by kernel_rfl) Tryz.call42 Tryz.func42 rfl (by kernel_rfl) rfl [.tmp 2] (by kernel_rfl) fun Q hQ => ?_
  simp (maxSteps := 1000000) (disch := (first | omega | (simp only [lnA, List.length_map, List.length_range, true_and, and_true]; (try omega); done) | fail)) only [go_sem, Int.reduceEq, Int.reduceToNat, Nat.reduceAdd, Nat.reduceMul, Nat.reduceEqDiff, ↓reduceIte]
  refine LoopV_of (X := Nat × Nat) (st := fun x => ([(0, .lit (.int .i64 (x.1 : Int))), (3, .lit (.int .i64 (x.2 : Int)))], []))
    (inv := fun x => bl x.1 + x.2 = bl n ∧ x.1 ≤ n) (m := fun x => x.1) (n, 0) [] rfl (by simp (disch := (first | omega | (simp only [lnA, List.length_map, List.length_range, true_and, and_true]; (try omega); done) | fail)) only [go_sem, Int.reduceEq, Int.reduceToNat, Nat.reduceAdd, Nat.reduceMul, Nat.reduceEqDiff, ↓reduceIte, true_and, and_true, and_self, List.drop_zero, List.take_length, Nat.le_refl, V.lit.injEq, Value.int.injEq, Value.bool.injEq]; try (first | omega | (simp; done) | (simp; omega))) (by simp (disch := (first | omega | (simp only [lnA, List.length_map, List.length_range, true_and, and_true]; (try omega); done) | fail)) only [go_sem, Int.reduceEq, Int.reduceToNat, Nat.reduceAdd, Nat.reduceMul, Nat.reduceEqDiff, ↓reduceIte, true_and, and_true, and_self, List.drop_zero, List.take_length, Nat.le_refl, V.lit.injEq, Value.int.injEq, Value.bool.injEq]; try (first | omega | (simp; done) | (simp; omega))) ⟨rfl, Nat.le_refl _⟩ ?_
  rintro ⟨m, k⟩ ⟨h1, h2⟩
  simp only at h1 h2
  by_cases h : 1 ≤ m
  · have e := bl_rec h
    simp (maxSteps := 1000000) (disch := (first | omega | (simp only [lnA, List.length_map, List.length_range, true_and, and_true]; (try omega); done) | fail)) only [go_sem, Int.reduceEq, Int.reduceToNat, Nat.reduceAdd, Nat.reduceMul, Nat.reduceEqDiff, ↓reduceIte]
    refine nextW (m / 2, k + 1) [] ⟨by simp only; omega, by simp only; omega⟩ (by simp only; omega)
  · obtain rfl : m = 0 := by omega
    rw [show bl 0 = 0 from rfl, Nat.zero_add] at h1
    subst h1
    simp (maxSteps := 1000000) (disch := (first | omega | (simp only [lnA, List.length_map, List.length_range, true_and, and_true]; (try omega); done) | fail)) only [go_sem, Int.reduceEq, Int.reduceToNat, Nat.reduceAdd, Nat.reduceMul, Nat.reduceEqDiff, ↓reduceIte]
    exact endW [] hQ
theorem widths17_fn {k a b : Nat} (h : goodN k a b) : Fn1 Tryz.prog 22 [pR k a b] [] (.tup [.lit (.int .i64 (w1 k a b : Int)), .lit (.int .i64 (w2 k a b : Int))]) [] := by
  have l1 := long17_fn (n := a) (by rcases h with h | h | h | h <;> omega)
  have l2 := long17_fn (n := b) (by rcases h with h | h | h | h <;> omega)
  unfold w1 w2
  refine fn1N_of pl22 (by kernel_rfl) Tryz.call22 Tryz.func22 rfl (by kernel_rfl) rfl [.tmp 2, .tmp 3] (by kernel_rfl) fun Q hQ => ?_
  by_cases h4 : k = 4
  · rw [if_pos h4, if_pos h4] at hQ
    simp (maxSteps := 1000000) (disch := (first | omega | (simp only [lnA, List.length_map, List.length_range, true_and, and_true]; (try omega); done) | fail)) only [go_sem, Int.reduceEq, Int.reduceToNat, Nat.reduceAdd, Nat.reduceMul, Nat.reduceEqDiff, ↓reduceIte]
    repeat (first | (refine callV0 (l1) rfl rfl ?_) | (refine callV0 (l2) rfl rfl ?_) | (simp (maxSteps := 1000000) (disch := (first | omega | (simp only [lnA, List.length_map, List.length_range, true_and, and_true]; (try omega); done) | fail)) only [go_sem, Int.reduceEq, Int.reduceToNat, Nat.reduceAdd, Nat.reduceMul, Nat.reduceEqDiff, ↓reduceIte]))
    exact endW [] hQ
  · rw [if_neg h4, if_neg h4] at hQ
    simp (maxSteps := 1000000) (disch := (first | omega | (simp only [lnA, List.length_map, List.length_range, true_and, and_true]; (try omega); done) | fail)) only [go_sem, Int.reduceEq, Int.reduceToNat, Nat.reduceAdd, Nat.reduceMul, Nat.reduceEqDiff, ↓reduceIte]
    exact endW [] hQ
theorem w1_pos {k a b : Nat} (h : goodN k a b) : 1 ≤ w1 k a b := by
  unfold w1
  by_cases h4 : k = 4
  · rw [if_pos h4]
    exact bl_pos (by rcases h with h | h | h | h <;> omega)
  · rw [if_neg h4]
    rcases h with h | h | h | h <;> omega
set_option maxHeartbeats 2000000 in
theorem refWrite_fn {k a b : Nat} {s : Nat × Nat × Bool} {L : List Bool} (h : goodN k a b) (w : wellN k a b s) (hL : L.length < 1099511600000) :
    Fn1 Tryz.prog 11 [.row 1 (L.map be), pR k a b, sR s] [] (.row 1 ((L ++ rgB k a b s).map be)) [] := by
  have ws := widths17_fn h
  have hw := w_le h
  have hp1 := w1_pos h
  have hlt := well_lt h w
  obtain ⟨K, T, F⟩ := s
  have e : L ++ rgB k a b (K, T, F) = L ++ numBits K (w1 k a b) ++ numBits T (w2 k a b) ++ [F] := by unfold rgB; simp
  rw [e]
  clear e w
  dsimp only at hlt
  generalize w1 k a b = x at *
  generalize w2 k a b = y at *
  have hpx : 2 ^ x ≤ 2 ^ 10 := Nat.pow_le_pow_right (by decide) hw.1
  have hpy : 2 ^ y ≤ 2 ^ 5 := Nat.pow_le_pow_right (by decide) hw.2
  have n1 := refPut_fn (L := L) (n := K) (m := x) (by omega) (by omega) (by omega) hlt.1
  have hx1 : (L ++ numBits K x).length = L.length + x := by rw [List.length_append, numBits_len]
  generalize L ++ numBits K x = M at *
  refine fn1N_of pl11 (by kernel_rfl) Tryz.call11 Tryz.func11 rfl (by kernel_rfl) rfl [.tmp 6] (by kernel_rfl) fun Q hQ => ?_
  simp (maxSteps := 1000000) (disch := (first | omega | (simp only [lnA, List.length_map, List.length_range, true_and, and_true]; (try omega); done) | fail)) only [go_sem, Int.reduceEq, Int.reduceToNat, Nat.reduceAdd, Nat.reduceMul, Nat.reduceEqDiff, ↓reduceIte]
  refine callV0 (ws) rfl rfl ?_
  simp (maxSteps := 1000000) (disch := (first | omega | (simp only [lnA, List.length_map, List.length_range, true_and, and_true]; (try omega); done) | fail)) only [go_sem, Int.reduceEq, Int.reduceToNat, Nat.reduceAdd, Nat.reduceMul, Nat.reduceEqDiff, ↓reduceIte]
  refine callV0 (n1) rfl rfl ?_
  by_cases hy : 1 ≤ y
  · have n2 := refPutO_fn (L := M) (n := T) (m := y) (by omega) (by omega) (by omega) hlt.2 hy
    have hx2 : (M ++ numBits T y).length = M.length + y := by rw [List.length_append, numBits_len]
    generalize M ++ numBits T y = M2 at *
    rw [← hx2] at n2
    simp (maxSteps := 1000000) (disch := (first | omega | (simp only [lnA, List.length_map, List.length_range, true_and, and_true]; (try omega); done) | fail)) only [go_sem, Int.reduceEq, Int.reduceToNat, Nat.reduceAdd, Nat.reduceMul, Nat.reduceEqDiff, ↓reduceIte]
    refine callW [] [] (n2) ?_
    simp (maxSteps := 1000000) (disch := (first | omega | (simp only [lnA, List.length_map, List.length_range, true_and, and_true]; (try omega); done) | fail)) only [go_sem, Int.reduceEq, Int.reduceToNat, Nat.reduceAdd, Nat.reduceMul, Nat.reduceEqDiff, ↓reduceIte]
    simp only [List.map_append, List.map_cons, List.map_nil, be] at hQ
    refine EndV_of [] _ _ rfl (by simp (disch := (first | omega | (simp only [lnA, List.length_map, List.length_range, true_and, and_true]; (try omega); done) | fail)) only [go_sem, Int.reduceEq, Int.reduceToNat, Nat.reduceAdd, Nat.reduceMul, Nat.reduceEqDiff, ↓reduceIte, true_and, and_true, and_self, List.drop_zero, List.take_length, Nat.le_refl, V.lit.injEq, Value.int.injEq, Value.bool.injEq]; try (first | omega | (simp; done) | (simp; omega))) ?_ hQ
    simp (maxSteps := 1000000) (disch := (first | omega | (simp only [lnA, List.length_map, List.length_range, true_and, and_true]; (try omega); done) | fail)) only [go_sem, Int.reduceEq, Int.reduceToNat, Nat.reduceAdd, Nat.reduceMul, Nat.reduceEqDiff, ↓reduceIte]
    exact ⟨trivial, trivial, trivial⟩
  · obtain rfl : y = 0 := by omega
    have n2 := refPutZ_fn (L := M) (by omega) (by omega)
    obtain rfl : T = 0 := by omega
    have e0 : M ++ numBits 0 0 = M := by rw [show numBits 0 0 = [] from rfl, List.append_nil]
    rw [e0] at hQ
    simp (maxSteps := 1000000) (disch := (first | omega | (simp only [lnA, List.length_map, List.length_range, true_and, and_true]; (try omega); done) | fail)) only [go_sem, Int.reduceEq, Int.reduceToNat, Nat.reduceAdd, Nat.reduceMul, Nat.reduceEqDiff, ↓reduceIte]
    refine callW [] [] (n2) ?_
    simp (maxSteps := 1000000) (disch := (first | omega | (simp only [lnA, List.length_map, List.length_range, true_and, and_true]; (try omega); done) | fail)) only [go_sem, Int.reduceEq, Int.reduceToNat, Nat.reduceAdd, Nat.reduceMul, Nat.reduceEqDiff, ↓reduceIte]
    simp only [List.map_append, List.map_cons, List.map_nil, be] at hQ
    refine EndV_of [] _ _ rfl (by simp (disch := (first | omega | (simp only [lnA, List.length_map, List.length_range, true_and, and_true]; (try omega); done) | fail)) only [go_sem, Int.reduceEq, Int.reduceToNat, Nat.reduceAdd, Nat.reduceMul, Nat.reduceEqDiff, ↓reduceIte, true_and, and_true, and_self, List.drop_zero, List.take_length, Nat.le_refl, V.lit.injEq, Value.int.injEq, Value.bool.injEq]; try (first | omega | (simp; done) | (simp; omega))) ?_ hQ
    simp (maxSteps := 1000000) (disch := (first | omega | (simp only [lnA, List.length_map, List.length_range, true_and, and_true]; (try omega); done) | fail)) only [go_sem, Int.reduceEq, Int.reduceToNat, Nat.reduceAdd, Nat.reduceMul, Nat.reduceEqDiff, ↓reduceIte]
    exact ⟨trivial, trivial, trivial⟩
end Go.Proofs.YteookgjmohokiaaGreat
