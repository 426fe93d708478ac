import Derived.Test.YtfemchdaoihogaaZn
/-! TallyDraws. -/
namespace Go.Proofs.Ytfemchdaoihogaa
open Go.Eng Go.Vx
set_option linter.unusedSimpArgs false
set_option linter.unusedVariables false
set_option maxRecDepth 100000
set_option maxHeartbeats 4000000 in
theorem tallyDraws_fn {L0 : List Bool} {n0 y0 : Int} (hL0 : L0.length ≤ 9223372036854775807) : Fn1 Try.prog 6 [.lit (.int .i64 n0), .lit (.int .i64 y0), .row 1 (L0.map be)] [] (.lit (.bool true)) [] := by
  obtain ⟨n, hn⟩ : ∃ m : Nat, 1 + n0 % 1024 = (m : Int) := ⟨(1 + n0 % 1024).toNat, by omega⟩
  obtain ⟨Y, hY⟩ : ∃ m : Nat, y0 % 32 = (m : Int) := ⟨(y0 % 32).toNat, by omega⟩
  have hn1 : 1 ≤ n := by omega
  have hn2 : n ≤ 1024 := by omega
  have hY2 : Y ≤ 31 := by omega
  have hmk := rmake_fn (p := (Y : Int)) (q := (n : Int)) (by omega) (by omega) (by omega) (by omega) (by omega)
  refine fn1_of pl6 (by kernel_rfl) Try.call6 Try.func6 rfl (by kernel_rfl) rfl [.tmp 6] (by kernel_rfl) fun Q hQ => ?_
  have hL : (L0.take 300).length ≤ 300 := by simp; omega
  by_cases hl : 300 < L0.length
  case' neg =>
    have e : L0.take 300 = L0 := List.take_of_length_le (by omega)
    rw [← e]
    have hlt : decide ((300 : Int) < ((L0.take 300).length : Int)) = false := decide_eq_false (by omega)
  case' pos =>
    have hlt : decide ((300 : Int) < (L0.length : Int)) = true := decide_eq_true (by omega)
  all_goals
    simp (maxSteps := 1000000) (disch := (first | omega | (simp only [List.length_append, List.length_set, List.length_cons, List.length_nil, List.length_replicate, List.length_take, List.length_drop, List.length_map, List.length_range, true_and, and_true]; (try omega); done) | fail)) only [go_sem, hlt, List.drop_zero, ← List.map_take, Int.reduceEq, Int.reduceToNat, Nat.reduceAdd, Nat.reduceMul, Nat.reduceEqDiff, ↓reduceIte]
    generalize L0.take 300 = L at *
    refine callW [] [] (newT_fn (L := L) (by omega)) ?_
    simp (maxSteps := 1000000) (disch := (first | omega | (simp only [List.length_append, List.length_set, List.length_cons, List.length_nil, List.length_replicate, List.length_take, List.length_drop, List.length_map, List.length_range, true_and, and_true]; (try omega); done) | fail)) only [go_sem, hn, hY, Int.reduceEq, Int.reduceToNat, Nat.reduceAdd, Nat.reduceMul, Nat.reduceEqDiff, ↓reduceIte]
    refine callT (leftT_fn (L := L) (by omega)) ?_
    obtain ⟨a, e, q, d, hb, ha, hq, he⟩ := belowS (L := L) (n := n) (by omega) (by omega) (by omega)
    obtain ⟨b, f, q2, d2, hbi, hbl, hq2, hf⟩ := binomS (L := L) (p := q) (Y := Y) d (by omega) hq (by omega)
    obtain ⟨c, g, q3, d3, hro, hcl, hg⟩ := roundS (L := L) (p := q2) (Y := Y) (n := n) d2 (by omega) hq2 (by omega) (by omega) (by omega)
    generalize ((Y : Int) : Rat) / ((n : Int) : Rat) = x at *
    have hcy : c ≤ 32 := by have := Nat.div_le_self Y n; omega
    simp (maxSteps := 1000000) (disch := (first | omega | (simp only [List.length_append, List.length_set, List.length_cons, List.length_nil, List.length_replicate, List.length_take, List.length_drop, List.length_map, List.length_range, true_and, and_true]; (try omega); done) | fail)) only [go_sem, bne_self_eq_false, Int.reduceEq, Int.reduceToNat, Nat.reduceAdd, Nat.reduceMul, Nat.reduceEqDiff, ↓reduceIte]
    refine callW [some 0] [] (hb) ?_
    simp (maxSteps := 1000000) (disch := (first | omega | (simp only [List.length_append, List.length_set, List.length_cons, List.length_nil, List.length_replicate, List.length_take, List.length_drop, List.length_map, List.length_range, true_and, and_true]; (try omega); done) | fail)) only [go_sem, Int.reduceEq, Int.reduceToNat, Nat.reduceAdd, Nat.reduceMul, Nat.reduceEqDiff, ↓reduceIte]
    refine callW [some 0] [] (hbi) ?_
    simp (maxSteps := 1000000) (disch := (first | omega | (simp only [List.length_append, List.length_set, List.length_cons, List.length_nil, List.length_replicate, List.length_take, List.length_drop, List.length_map, List.length_range, true_and, and_true]; (try omega); done) | fail)) only [go_sem, Int.reduceEq, Int.reduceToNat, Nat.reduceAdd, Nat.reduceMul, Nat.reduceEqDiff, ↓reduceIte]
    refine callV0 (hmk) rfl rfl ?_
    simp (maxSteps := 1000000) (disch := (first | omega | (simp only [List.length_append, List.length_set, List.length_cons, List.length_nil, List.length_replicate, List.length_take, List.length_drop, List.length_map, List.length_range, true_and, and_true]; (try omega); done) | fail)) only [go_sem, Int.reduceEq, Int.reduceToNat, Nat.reduceAdd, Nat.reduceMul, Nat.reduceEqDiff, ↓reduceIte]
    refine callW [some 0] [] (hro) ?_
    simp (maxSteps := 1000000) (disch := (first | omega | (simp only [List.length_append, List.length_set, List.length_cons, List.length_nil, List.length_replicate, List.length_take, List.length_drop, List.length_map, List.length_range, true_and, and_true]; (try omega); done) | fail)) only [go_sem, Int.reduceEq, Int.reduceToNat, Nat.reduceAdd, Nat.reduceMul, Nat.reduceEqDiff, ↓reduceIte]
    have hdv : (Y : Int) / (n : Int) = ((Y / n : Nat) : Int) := rfl
    have hYn := Nat.div_le_self Y n
    generalize Y / n = m at *
    have hl3 : ((3 : Nat) : Int) = 3 := rfl
    have key : (e = 0 ∨ e = 8) ∧ (f = 0 ∨ f = 8) ∧ (g = 0 ∨ g = 8) := ⟨by omega, by omega, by omega⟩
    refine LoopV_of (X := Nat) (st := fun i => ([(0, .lit (.int .i64 (n : Int))), (1, .lit (.int .i64 (Y : Int))), (7, .ref 0 0 0 0), (8, .lit (.int .u64 (a : Int))), (9, .lit (.int .i64 e)), (10, .lit (.int .i64 (b : Int))), (11, .lit (.int .i64 f)), (14, .lit (.int .i64 (c : Int))), (15, .lit (.int .i64 g)), (67, .sl 2 1 0 3), (68, .lit (.int .i64 3)), (69, .lit (.int .i64 (i : Int)))], [some (tpC L q3 d3), some (.cells [.row 1 ((nl (wg x.num.natAbs)).map (ie .u64)), .lit (.bool (decide (x.num < 0))), .row 1 ((nl (wg (x.den - 1))).map (ie .u64))]), some (.row 1 [[.lit (.int .i64 e)], [.lit (.int .i64 f)], [.lit (.int .i64 g)]])]))
      (inv := fun i => i ≤ 3) (m := fun i => 3 - i) 0 [some 0, some 1, some 2] rfl (by simp (disch := (first | omega | (simp only [List.length_append, List.length_set, List.length_cons, List.length_nil, List.length_replicate, List.length_take, List.length_drop, List.length_map, List.length_range, true_and, and_true]; (try omega); done) | fail)) only [go_sem, Int.reduceEq, Int.reduceToNat, Nat.reduceAdd, Nat.reduceMul, Nat.reduceEqDiff, ↓reduceIte, true_and, and_true, and_self, List.drop_zero, List.take_length, Nat.le_refl, V.lit.injEq, Value.int.injEq, Value.bool.injEq]; try (first | omega | (simp; done) | (simp; omega))) (by simp (disch := (first | omega | (simp only [List.length_append, List.length_set, List.length_cons, List.length_nil, List.length_replicate, List.length_take, List.length_drop, List.length_map, List.length_range, true_and, and_true]; (try omega); done) | fail)) only [go_sem, Int.reduceEq, Int.reduceToNat, Nat.reduceAdd, Nat.reduceMul, Nat.reduceEqDiff, ↓reduceIte, true_and, and_true, and_self, List.drop_zero, List.take_length, Nat.le_refl, V.lit.injEq, Value.int.injEq, Value.bool.injEq]; try (first | omega | (simp; done) | (simp; omega))) (by omega) ?_
    intro i hi
    have hi4 : i = 0 ∨ i = 1 ∨ i = 2 ∨ i = 3 := by omega
    rcases hi4 with rfl | rfl | rfl | rfl
    · have hz : ((0 : Nat) : Int) = 0 := rfl
      rcases key.1 with h | h
      · subst h
        simp (maxSteps := 1000000) (disch := (first | omega | (simp only [List.length_append, List.length_set, List.length_cons, List.length_nil, List.length_replicate, List.length_take, List.length_drop, List.length_map, List.length_range, true_and, and_true]; (try omega); done) | fail)) only [go_sem, hz, Int.reduceEq, Int.reduceToNat, Nat.reduceAdd, Nat.reduceMul, Nat.reduceEqDiff, ↓reduceIte]
        refine nextW 1 [some 0, some 1, some 2] (by omega) (by omega)
      · subst h
        simp (maxSteps := 1000000) (disch := (first | omega | (simp only [List.length_append, List.length_set, List.length_cons, List.length_nil, List.length_replicate, List.length_take, List.length_drop, List.length_map, List.length_range, true_and, and_true]; (try omega); done) | fail)) only [go_sem, hz, Int.reduceEq, Int.reduceToNat, Nat.reduceAdd, Nat.reduceMul, Nat.reduceEqDiff, ↓reduceIte]
        refine nextW 1 [some 0, some 1, some 2] (by omega) (by omega)
    · have hz : ((1 : Nat) : Int) = 1 := rfl
      rcases key.2.1 with h | h
      · subst h
        simp (maxSteps := 1000000) (disch := (first | omega | (simp only [List.length_append, List.length_set, List.length_cons, List.length_nil, List.length_replicate, List.length_take, List.length_drop, List.length_map, List.length_range, true_and, and_true]; (try omega); done) | fail)) only [go_sem, hz, Int.reduceEq, Int.reduceToNat, Nat.reduceAdd, Nat.reduceMul, Nat.reduceEqDiff, ↓reduceIte]
        refine nextW 2 [some 0, some 1, some 2] (by omega) (by omega)
      · subst h
        simp (maxSteps := 1000000) (disch := (first | omega | (simp only [List.length_append, List.length_set, List.length_cons, List.length_nil, List.length_replicate, List.length_take, List.length_drop, List.length_map, List.length_range, true_and, and_true]; (try omega); done) | fail)) only [go_sem, hz, Int.reduceEq, Int.reduceToNat, Nat.reduceAdd, Nat.reduceMul, Nat.reduceEqDiff, ↓reduceIte]
        refine nextW 2 [some 0, some 1, some 2] (by omega) (by omega)
    · have hz : ((2 : Nat) : Int) = 2 := rfl
      rcases key.2.2 with h | h
      · subst h
        simp (maxSteps := 1000000) (disch := (first | omega | (simp only [List.length_append, List.length_set, List.length_cons, List.length_nil, List.length_replicate, List.length_take, List.length_drop, List.length_map, List.length_range, true_and, and_true]; (try omega); done) | fail)) only [go_sem, hz, Int.reduceEq, Int.reduceToNat, Nat.reduceAdd, Nat.reduceMul, Nat.reduceEqDiff, ↓reduceIte]
        refine nextW 3 [some 0, some 1, some 2] (by omega) (by omega)
      · subst h
        simp (maxSteps := 1000000) (disch := (first | omega | (simp only [List.length_append, List.length_set, List.length_cons, List.length_nil, List.length_replicate, List.length_take, List.length_drop, List.length_map, List.length_range, true_and, and_true]; (try omega); done) | fail)) only [go_sem, hz, Int.reduceEq, Int.reduceToNat, Nat.reduceAdd, Nat.reduceMul, Nat.reduceEqDiff, ↓reduceIte]
        refine nextW 3 [some 0, some 1, some 2] (by omega) (by omega)
    · have hz : ((3 : Nat) : Int) = 3 := rfl
      rcases he with ⟨rfl, rfl⟩ | ⟨rfl, rfl⟩
      · rcases hf with ⟨rfl, rfl, hf3⟩ | ⟨rfl, rfl, hf3⟩
        · rcases hg with ⟨rfl, rfl⟩ | ⟨rfl, rfl⟩
          · simp (maxSteps := 1000000) (disch := (first | omega | (simp only [List.length_append, List.length_set, List.length_cons, List.length_nil, List.length_replicate, List.length_take, List.length_drop, List.length_map, List.length_range, true_and, and_true]; (try omega); done) | fail)) only [go_sem, hz, hdv, Int.reduceEq, Int.reduceToNat, Nat.reduceAdd, Nat.reduceMul, Nat.reduceEqDiff, ↓reduceIte]
            refine callT (deadT_fn (L := L) (p := q3) (d := false)) ?_
            simp (maxSteps := 1000000) (disch := (first | omega | (simp only [List.length_append, List.length_set, List.length_cons, List.length_nil, List.length_replicate, List.length_take, List.length_drop, List.length_map, List.length_range, true_and, and_true]; (try omega); done) | fail)) only [go_sem, bne_self_eq_false, hdv, Int.reduceEq, Int.reduceToNat, Nat.reduceAdd, Nat.reduceMul, Nat.reduceEqDiff, ↓reduceIte]
            exact endW [] hQ
          · simp (maxSteps := 1000000) (disch := (first | omega | (simp only [List.length_append, List.length_set, List.length_cons, List.length_nil, List.length_replicate, List.length_take, List.length_drop, List.length_map, List.length_range, true_and, and_true]; (try omega); done) | fail)) only [go_sem, hz, hdv, Int.reduceEq, Int.reduceToNat, Nat.reduceAdd, Nat.reduceMul, Nat.reduceEqDiff, ↓reduceIte]
            refine callT (deadT_fn (L := L) (p := q3) (d := true)) ?_
            simp (maxSteps := 1000000) (disch := (first | omega | (simp only [List.length_append, List.length_set, List.length_cons, List.length_nil, List.length_replicate, List.length_take, List.length_drop, List.length_map, List.length_range, true_and, and_true]; (try omega); done) | fail)) only [go_sem, bne_self_eq_false, hdv, Int.reduceEq, Int.reduceToNat, Nat.reduceAdd, Nat.reduceMul, Nat.reduceEqDiff, ↓reduceIte]
            exact endW [] hQ
        · have hY1 : decide ((0 : Int) < (Y : Int)) = true := decide_eq_true (by omega)
          rcases hg with ⟨rfl, rfl⟩ | ⟨rfl, rfl⟩
          all_goals
            simp (maxSteps := 1000000) (disch := (first | omega | (simp only [List.length_append, List.length_set, List.length_cons, List.length_nil, List.length_replicate, List.length_take, List.length_drop, List.length_map, List.length_range, true_and, and_true]; (try omega); done) | fail)) only [go_sem, hz, hdv, hY1, Int.reduceEq, Int.reduceToNat, Nat.reduceAdd, Nat.reduceMul, Nat.reduceEqDiff, ↓reduceIte]
            refine callT (deadT_fn (L := L) (p := q3) (d := true)) ?_
            simp (maxSteps := 1000000) (disch := (first | omega | (simp only [List.length_append, List.length_set, List.length_cons, List.length_nil, List.length_replicate, List.length_take, List.length_drop, List.length_map, List.length_range, true_and, and_true]; (try omega); done) | fail)) only [go_sem, bne_self_eq_false, hdv, Int.reduceEq, Int.reduceToNat, Nat.reduceAdd, Nat.reduceMul, Nat.reduceEqDiff, ↓reduceIte]
            exact endW [] hQ
      · rcases hf with ⟨rfl, rfl, hf3⟩ | ⟨rfl, rfl, hf3⟩
        · have hY0 := hf3 rfl
          have hY1 : decide ((0 : Int) < (Y : Int)) = false := decide_eq_false (by omega)
          rcases hg with ⟨rfl, rfl⟩ | ⟨rfl, rfl⟩
          all_goals
            simp (maxSteps := 1000000) (disch := (first | omega | (simp only [List.length_append, List.length_set, List.length_cons, List.length_nil, List.length_replicate, List.length_take, List.length_drop, List.length_map, List.length_range, true_and, and_true]; (try omega); done) | fail)) only [go_sem, hz, hdv, hY1, bne_self_eq_false, Int.reduceEq, Int.reduceToNat, Nat.reduceAdd, Nat.reduceMul, Nat.reduceEqDiff, ↓reduceIte]
            refine callT (deadT_fn (L := L) (p := q3) (d := true)) ?_
            simp (maxSteps := 1000000) (disch := (first | omega | (simp only [List.length_append, List.length_set, List.length_cons, List.length_nil, List.length_replicate, List.length_take, List.length_drop, List.length_map, List.length_range, true_and, and_true]; (try omega); done) | fail)) only [go_sem, bne_self_eq_false, hdv, Int.reduceEq, Int.reduceToNat, Nat.reduceAdd, Nat.reduceMul, Nat.reduceEqDiff, ↓reduceIte]
            exact endW [] hQ
        · have hY1 : decide ((0 : Int) < (Y : Int)) = true := decide_eq_true (by omega)
          rcases hg with ⟨rfl, rfl⟩ | ⟨rfl, rfl⟩
          all_goals
            simp (maxSteps := 1000000) (disch := (first | omega | (simp only [List.length_append, List.length_set, List.length_cons, List.length_nil, List.length_replicate, List.length_take, List.length_drop, List.length_map, List.length_range, true_and, and_true]; (try omega); done) | fail)) only [go_sem, hz, hdv, hY1, bne_self_eq_false, Int.reduceEq, Int.reduceToNat, Nat.reduceAdd, Nat.reduceMul, Nat.reduceEqDiff, ↓reduceIte]
            refine callT (deadT_fn (L := L) (p := q3) (d := true)) ?_
            simp (maxSteps := 1000000) (disch := (first | omega | (simp only [List.length_append, List.length_set, List.length_cons, List.length_nil, List.length_replicate, List.length_take, List.length_drop, List.length_map, List.length_range, true_and, and_true]; (try omega); done) | fail)) only [go_sem, bne_self_eq_false, hdv, Int.reduceEq, Int.reduceToNat, Nat.reduceAdd, Nat.reduceMul, Nat.reduceEqDiff, ↓reduceIte]
            exact endW [] hQ
end Go.Proofs.Ytfemchdaoihogaa
