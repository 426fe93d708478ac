import Derived.Test.YteookgjmohokiaaGreatNp
namespace Go.Proofs.YteookgjmohokiaaGreat
open Go.Eng Go.Vx
set_option linter.unusedSimpArgs false
set_option linter.unusedVariables false
set_option maxRecDepth 100000
theorem swithin_fn {n m : Int} : Fn1 Tryz.prog 97 [.lit (.int .i64 n), .lit (.int .i64 m)] [] (.lit (.bool (decide (1 ≤ n ∧ n ≤ m)))) [] := by
  refine fn1N_of pl97 (by kernel_rfl) Tryz.call97 Tryz.func97 rfl (by kernel_rfl) rfl [.tmp 4] (by kernel_rfl) fun Q hQ => ?_
  by_cases h1 : 1 ≤ n
  · by_cases h2 : n ≤ m
    · rw [decide_eq_true (show 1 ≤ n ∧ n ≤ m from ⟨h1, h2⟩)] at hQ
      simp (maxSteps := 1000000) (disch := (first | omega | (simp only [lnA, List.length_map, List.length_range, true_and, and_true]; (try omega); done) | fail)) only [go_sem, Int.reduceEq, Int.reduceToNat, Nat.reduceAdd, Nat.reduceMul, Nat.reduceEqDiff, ↓reduceIte]
      exact endW [] hQ
    · rw [decide_eq_false (fun h : 1 ≤ n ∧ n ≤ m => h2 h.2)] at hQ
      simp (maxSteps := 1000000) (disch := (first | omega | (simp only [lnA, List.length_map, List.length_range, true_and, and_true]; (try omega); done) | fail)) only [go_sem, Int.reduceEq, Int.reduceToNat, Nat.reduceAdd, Nat.reduceMul, Nat.reduceEqDiff, ↓reduceIte]
      exact endW [] hQ
  · rw [decide_eq_false (fun h : 1 ≤ n ∧ n ≤ m => h1 h.1)] at hQ
    simp (maxSteps := 1000000) (disch := (first | omega | (simp only [lnA, List.length_map, List.length_range, true_and, and_true]; (try omega); done) | fail)) only [go_sem, Int.reduceEq, Int.reduceToNat, Nat.reduceAdd, Nat.reduceMul, Nat.reduceEqDiff, ↓reduceIte]
    exact endW [] hQ
def goodS (M D S : Int) : Prop := (1 ≤ M ∧ M ≤ 16) ∧ (1 ≤ D ∧ D ≤ 4) ∧ 1 ≤ S ∧ S ≤ 8
theorem scheck_fn {M D S : Int} (h : goodS M D S) : Fn1 Tryz.prog 96 [.agg [.lit (.int .i64 M), .lit (.int .i64 D), .lit (.int .i64 S)]] [] (.lit (.int .i64 0)) [] := by
  obtain ⟨h1, h2, h3⟩ := h
  have w1 := swithin_fn (n := M) (m := 16)
  have w2 := swithin_fn (n := D) (m := 4)
  have w3 := swithin_fn (n := S) (m := 8)
  rw [decide_eq_true h1] at w1
  rw [decide_eq_true h2] at w2
  rw [decide_eq_true h3] at w3
  refine fn1N_of pl96 (by kernel_rfl) Tryz.call96 Tryz.func96 rfl (by kernel_rfl) rfl [.tmp 2] (by kernel_rfl) fun Q hQ => ?_
  simp (maxSteps := 1000000) (disch := (first | omega | (simp only [lnA, List.length_map, List.length_range, true_and, and_true]; (try omega); done) | fail)) only [go_sem, Int.reduceEq, Int.reduceToNat, Nat.reduceAdd, Nat.reduceMul, Nat.reduceEqDiff, ↓reduceIte]
  refine callV0 (w1) rfl rfl ?_
  simp (maxSteps := 1000000) (disch := (first | omega | (simp only [lnA, List.length_map, List.length_range, true_and, and_true]; (try omega); done) | fail)) only [go_sem, Int.reduceEq, Int.reduceToNat, Nat.reduceAdd, Nat.reduceMul, Nat.reduceEqDiff, ↓reduceIte]
  refine callV0 (w2) rfl rfl ?_
  simp (maxSteps := 1000000) (disch := (first | omega | (simp only [lnA, List.length_map, List.length_range, true_and, and_true]; (try omega); done) | fail)) only [go_sem, Int.reduceEq, Int.reduceToNat, Nat.reduceAdd, Nat.reduceMul, Nat.reduceEqDiff, ↓reduceIte]
  refine callV0 (w3) rfl rfl ?_
  simp (maxSteps := 1000000) (disch := (first | omega | (simp only [lnA, List.length_map, List.length_range, true_and, and_true]; (try omega); done) | fail)) only [go_sem, Int.reduceEq, Int.reduceToNat, Nat.reduceAdd, Nat.reduceMul, Nat.reduceEqDiff, ↓reduceIte]
  exact endW [] hQ
theorem scheckE_fn {M D S : Int} (h : ¬ goodS M D S) : Fn1 Tryz.prog 96 [.agg [.lit (.int .i64 M), .lit (.int .i64 D), .lit (.int .i64 S)]] [] (.lit (.int .i64 10)) [] := by
  have w1 := swithin_fn (n := M) (m := 16)
  have w2 := swithin_fn (n := D) (m := 4)
  have w3 := swithin_fn (n := S) (m := 8)
  refine fn1N_of pl96 (by kernel_rfl) Tryz.call96 Tryz.func96 rfl (by kernel_rfl) rfl [.tmp 2] (by kernel_rfl) fun Q hQ => ?_
  by_cases h1 : 1 ≤ M ∧ M ≤ 16
  · rw [decide_eq_true h1] at w1
    by_cases h2 : 1 ≤ D ∧ D ≤ 4
    · rw [decide_eq_true h2] at w2
      rw [decide_eq_false (fun h3 => h ⟨h1, h2, h3⟩)] at w3
      simp (maxSteps := 1000000) (disch := (first | omega | (simp only [lnA, List.length_map, List.length_range, true_and, and_true]; (try omega); done) | fail)) only [go_sem, Int.reduceEq, Int.reduceToNat, Nat.reduceAdd, Nat.reduceMul, Nat.reduceEqDiff, ↓reduceIte]
      refine callV0 (w1) rfl rfl ?_
      simp (maxSteps := 1000000) (disch := (first | omega | (simp only [lnA, List.length_map, List.length_range, true_and, and_true]; (try omega); done) | fail)) only [go_sem, Int.reduceEq, Int.reduceToNat, Nat.reduceAdd, Nat.reduceMul, Nat.reduceEqDiff, ↓reduceIte]
      refine callV0 (w2) rfl rfl ?_
      simp (maxSteps := 1000000) (disch := (first | omega | (simp only [lnA, List.length_map, List.length_range, true_and, and_true]; (try omega); done) | fail)) only [go_sem, Int.reduceEq, Int.reduceToNat, Nat.reduceAdd, Nat.reduceMul, Nat.reduceEqDiff, ↓reduceIte]
      refine callV0 (w3) rfl rfl ?_
      simp (maxSteps := 1000000) (disch := (first | omega | (simp only [lnA, List.length_map, List.length_range, true_and, and_true]; (try omega); done) | fail)) only [go_sem, Int.reduceEq, Int.reduceToNat, Nat.reduceAdd, Nat.reduceMul, Nat.reduceEqDiff, ↓reduceIte]
      exact endW [] hQ
    · rw [decide_eq_false h2] at w2
      simp (maxSteps := 1000000) (disch := (first | omega | (simp only [lnA, List.length_map, List.length_range, true_and, and_true]; (try omega); done) | fail)) only [go_sem, Int.reduceEq, Int.reduceToNat, Nat.reduceAdd, Nat.reduceMul, Nat.reduceEqDiff, ↓reduceIte]
      refine callV0 (w1) rfl rfl ?_
      simp (maxSteps := 1000000) (disch := (first | omega | (simp only [lnA, List.length_map, List.length_range, true_and, and_true]; (try omega); done) | fail)) only [go_sem, Int.reduceEq, Int.reduceToNat, Nat.reduceAdd, Nat.reduceMul, Nat.reduceEqDiff, ↓reduceIte]
      refine callV0 (w2) rfl rfl ?_
      simp (maxSteps := 1000000) (disch := (first | omega | (simp only [lnA, List.length_map, List.length_range, true_and, and_true]; (try omega); done) | fail)) only [go_sem, Int.reduceEq, Int.reduceToNat, Nat.reduceAdd, Nat.reduceMul, Nat.reduceEqDiff, ↓reduceIte]
      exact endW [] hQ
  · rw [decide_eq_false h1] at w1
    simp (maxSteps := 1000000) (disch := (first | omega | (simp only [lnA, List.length_map, List.length_range, true_and, and_true]; (try omega); done) | fail)) only [go_sem, Int.reduceEq, Int.reduceToNat, Nat.reduceAdd, Nat.reduceMul, Nat.reduceEqDiff, ↓reduceIte]
    refine callV0 (w1) rfl rfl ?_
    simp (maxSteps := 1000000) (disch := (first | omega | (simp only [lnA, List.length_map, List.length_range, true_and, and_true]; (try omega); done) | fail)) only [go_sem, Int.reduceEq, Int.reduceToNat, Nat.reduceAdd, Nat.reduceMul, Nat.reduceEqDiff, ↓reduceIte]
    exact endW [] hQ
def cV (c : Cell) : List PV := [.lit (.int .i64 (c.1 : Int)), .lit (.int .i64 (c.2 : Int))]
def cA (c : Cell) : V := .agg [.lit (.int .i64 (c.1 : Int)), .lit (.int .i64 (c.2 : Int))]
def pA (M D S : Nat) : V := .agg [.lit (.int .i64 (M : Int)), .lit (.int .i64 (D : Int)), .lit (.int .i64 (S : Int))]
def saC (M D S : Nat) (st : SS) : Ob := .cells [.lit (.int .i64 (M : Int)), .lit (.int .i64 (D : Int)), .lit (.int .i64 (S : Int)), .row 2 (st.1.map cV), .lit (.int .i64 (st.2.1 : Int)), .lit (.bool st.2.2)]
def saP (M D S : Nat) (st : SS) : V := .rref 6 [[.lit (.int .i64 (M : Int)), .lit (.int .i64 (D : Int)), .lit (.int .i64 (S : Int)), .row 2 (st.1.map cV), .lit (.int .i64 (st.2.1 : Int)), .lit (.bool st.2.2)]] 0 0
def saO (M D S o n : Nat) (s : Nat) (f : Bool) : Ob := .cells [.lit (.int .i64 (M : Int)), .lit (.int .i64 (D : Int)), .lit (.int .i64 (S : Int)), .sl o 2 0 n, .lit (.int .i64 (s : Int)), .lit (.bool f)]
attribute [go_sem] cA pA saC saP saO
@[go_sem] theorem cV_eq {c : Cell} : cV c = [.lit (.int .i64 (c.1 : Int)), .lit (.int .i64 (c.2 : Int))] := (rfl)
theorem getD_some {α : Type} [Inhabited α] {l : List α} {i : Nat} {x : α} (h : l[i]? = some x) : l.getD i default = x := by rw [List.getD_eq_getElem?_getD, h]; rfl
theorem snewE_fn {M D S n : Int} (h : ¬ (goodS M D S ∧ 1 ≤ n ∧ n ≤ 256)) : Fn1 Tryz.prog 85 [.agg [.lit (.int .i64 M), .lit (.int .i64 D), .lit (.int .i64 S)], .lit (.int .i64 n)] [] (.tup [.lit (.pointer none), .lit (.int .i64 10)]) [] := by
  refine fn1N_of pl85 (by kernel_rfl) Tryz.call85 Tryz.func85 rfl (by kernel_rfl) rfl [.tmp 4, .tmp 5] (by kernel_rfl) fun Q hQ => ?_
  by_cases h1 : goodS M D S
  · have hc := scheck_fn h1
    have w := swithin_fn (n := n) (m := 256)
    rw [decide_eq_false (fun e => h ⟨h1, e⟩)] at w
    simp (maxSteps := 1000000) (disch := (first | omega | (simp only [lnA, List.length_map, List.length_range, true_and, and_true]; (try omega); done) | fail)) only [go_sem, Int.reduceEq, Int.reduceToNat, Nat.reduceAdd, Nat.reduceMul, Nat.reduceEqDiff, ↓reduceIte]
    refine callV0 (hc) rfl rfl ?_
    simp (maxSteps := 1000000) (disch := (first | omega | (simp only [lnA, List.length_map, List.length_range, true_and, and_true]; (try omega); done) | fail)) only [go_sem, Int.reduceEq, Int.reduceToNat, Nat.reduceAdd, Nat.reduceMul, Nat.reduceEqDiff, ↓reduceIte]
    refine callV0 (w) rfl rfl ?_
    simp (maxSteps := 1000000) (disch := (first | omega | (simp only [lnA, List.length_map, List.length_range, true_and, and_true]; (try omega); done) | fail)) only [go_sem, Int.reduceEq, Int.reduceToNat, Nat.reduceAdd, Nat.reduceMul, Nat.reduceEqDiff, ↓reduceIte]
    exact endW [] hQ
  · have hc := scheckE_fn h1
    simp (maxSteps := 1000000) (disch := (first | omega | (simp only [lnA, List.length_map, List.length_range, true_and, and_true]; (try omega); done) | fail)) only [go_sem, Int.reduceEq, Int.reduceToNat, Nat.reduceAdd, Nat.reduceMul, Nat.reduceEqDiff, ↓reduceIte]
    refine callV0 (hc) rfl rfl ?_
    simp (maxSteps := 1000000) (disch := (first | omega | (simp only [lnA, List.length_map, List.length_range, true_and, and_true]; (try omega); done) | fail)) only [go_sem, Int.reduceEq, Int.reduceToNat, Nat.reduceAdd, Nat.reduceMul, Nat.reduceEqDiff, ↓reduceIte]
    exact endW [] hQ
def W3 (M D S n : Nat) (cs : List Cell) (s : Nat) (f : Bool) (L : List Bool) (p : Nat) (d : Bool) : St := [some (saO M D S 2 n s f), some (tpC L p d), some (.row 2 (cs.map cV))]
attribute [go_sem] W3
end Go.Proofs.YteookgjmohokiaaGreat
