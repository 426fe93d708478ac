import Derived.Test.YtdpekigpjihnkaaTi
import Derived.Test.YtdpekigpjihnkaaRf
/-! HashDraws. -/
namespace Go.Proofs.Ytdpekigpjihnkaa
open Go.Eng Go.Vx
set_option linter.unusedSimpArgs false
set_option linter.unusedVariables false
set_option maxRecDepth 100000
theorem few9_fn {L : List Bool} {n : Nat} (hL : L.length ≤ 9223372036854775807) (hn : n ≤ 1000000) : Fn1 Try.prog 32 [.row 1 (L.map be), .lit (.int .i64 (n : Int))] [] (.row 1 ((L.take n).map be)) [] := by
  refine fn1_of pl32 (by kernel_rfl) Try.call32 Try.func32 rfl (by kernel_rfl) rfl [.tmp 4] (by kernel_rfl) fun Q hQ => ?_
  by_cases h : n < L.length
  · simp (maxSteps := 1000000) (disch := (first | omega | (simp only [List.length_append, List.length_set, List.length_cons, List.length_nil, List.length_replicate, List.length_take, List.length_drop, List.length_map, List.length_range, true_and, and_true]; (try omega); done) | fail)) only [go_sem, List.drop_zero, Int.reduceEq, Int.reduceToNat, Nat.reduceAdd, Nat.reduceMul, Nat.reduceEqDiff, ↓reduceIte]
    exact endW [] hQ
  · have e : L.take n = L := List.take_of_length_le (by omega)
    rw [e] at hQ
    simp (maxSteps := 1000000) (disch := (first | omega | (simp only [List.length_append, List.length_set, List.length_cons, List.length_nil, List.length_replicate, List.length_take, List.length_drop, List.length_map, List.length_range, true_and, and_true]; (try omega); done) | fail)) only [go_sem, Int.reduceEq, Int.reduceToNat, Nat.reduceAdd, Nat.reduceMul, Nat.reduceEqDiff, ↓reduceIte]
    exact endW [] hQ
theorem belowX_cases {L : List Bool} {n p : Nat} (hn : 0 < n) : belowX L n p = (0, 8, L.length, true) ∨ ∃ x q, x < n ∧ belowX L n p = (x, 0, q, false) := by
  unfold belowX
  generalize bl (n - 1) = w
  generalize L.length + 1 - p = f
  induction f generalizing p with
  | zero => exact .inl rfl
  | succ f ih =>
    unfold belowR
    split
    · split
      · rename_i h; exact .inr ⟨_, _, h, rfl⟩
      · exact ih
    · exact .inl rfl
theorem hdraw_fn {L : List Bool} (hL : L.length ≤ 1048576) : Fn1 Try.prog 36 [.ref 0 0 0 0] [some (tpC L 0 false)]
    (if (belowX L 2305843009213693951 0).2.1 = 8 ∨ (belowX L 2305843009213693951 (belowX L 2305843009213693951 0).2.2.1).2.1 = 8 then .tup [.agg [.lit (.int .u64 0), .lit (.int .u64 0)], .lit (.int .i64 8)] else .tup [.agg [.lit (.int .u64 ((belowX L 2305843009213693951 0).1 : Int)), .lit (.int .u64 ((belowX L 2305843009213693951 (belowX L 2305843009213693951 0).2.2.1).1 : Int))], .lit (.int .i64 0)])
    (if (belowX L 2305843009213693951 0).2.1 = 8 ∨ (belowX L 2305843009213693951 (belowX L 2305843009213693951 0).2.2.1).2.1 = 8 then [some (tpC L L.length true)] else [some (tpC L (belowX L 2305843009213693951 (belowX L 2305843009213693951 0).2.2.1).2.2.1 false)]) := by
  refine fn1_of pl36 (by kernel_rfl) Try.call36 Try.func36 rfl (by kernel_rfl) rfl [.cell 2 26, .tmp 3] (by kernel_rfl) fun Q hQ => ?_
  have b1 := below_fn (L := L) (n := 2305843009213693951) (p := 0) hL (by omega) (by decide) (by decide)
  have he1 := belowX_end (L := L) (n := 2305843009213693951) (p := 0) (by omega)
  rcases belowX_cases (L := L) (n := 2305843009213693951) (p := 0) (by decide) with e1 | ⟨x, q, hx, e1⟩
  · rw [e1] at b1 hQ
    rw [if_pos (.inl rfl), if_pos (.inl rfl)] at hQ
    simp (maxSteps := 1000000) (disch := (first | omega | (simp only [List.length_append, List.length_set, List.length_cons, List.length_nil, List.length_replicate, List.length_take, List.length_drop, List.length_map, List.length_range, true_and, and_true]; (try omega); done) | fail)) only [go_sem, Int.reduceEq, Int.reduceToNat, Nat.reduceAdd, Nat.reduceMul, Nat.reduceEqDiff, ↓reduceIte]
    refine callW [some 0] [] (b1) ?_
    simp (maxSteps := 1000000) (disch := (first | omega | (simp only [List.length_append, List.length_set, List.length_cons, List.length_nil, List.length_replicate, List.length_take, List.length_drop, List.length_map, List.length_range, true_and, and_true]; (try omega); done) | fail)) only [go_sem, Int.reduceEq, Int.reduceToNat, Nat.reduceAdd, Nat.reduceMul, Nat.reduceEqDiff, ↓reduceIte]
    exact endW [some 0] hQ
  · rw [e1] at b1 hQ he1
    dsimp only at hQ he1
    have b2 := below_fn (L := L) (n := 2305843009213693951) (p := q) hL he1.2 (by decide) (by decide)
    rcases belowX_cases (L := L) (n := 2305843009213693951) (p := q) (by decide) with e2 | ⟨y, r, hy, e2⟩
    · rw [e2] at b2 hQ
      rw [if_pos (.inr rfl), if_pos (.inr rfl)] at hQ
      simp (maxSteps := 1000000) (disch := (first | omega | (simp only [List.length_append, List.length_set, List.length_cons, List.length_nil, List.length_replicate, List.length_take, List.length_drop, List.length_map, List.length_range, true_and, and_true]; (try omega); done) | fail)) only [go_sem, Int.reduceEq, Int.reduceToNat, Nat.reduceAdd, Nat.reduceMul, Nat.reduceEqDiff, ↓reduceIte]
      refine callW [some 0] [] (b1) ?_
      simp (maxSteps := 1000000) (disch := (first | omega | (simp only [List.length_append, List.length_set, List.length_cons, List.length_nil, List.length_replicate, List.length_take, List.length_drop, List.length_map, List.length_range, true_and, and_true]; (try omega); done) | fail)) only [go_sem, Int.reduceEq, Int.reduceToNat, Nat.reduceAdd, Nat.reduceMul, Nat.reduceEqDiff, ↓reduceIte]
      refine callW [some 0] [] (b2) ?_
      simp (maxSteps := 1000000) (disch := (first | omega | (simp only [List.length_append, List.length_set, List.length_cons, List.length_nil, List.length_replicate, List.length_take, List.length_drop, List.length_map, List.length_range, true_and, and_true]; (try omega); done) | fail)) only [go_sem, Int.reduceEq, Int.reduceToNat, Nat.reduceAdd, Nat.reduceMul, Nat.reduceEqDiff, ↓reduceIte]
      exact endW [some 0] hQ
    · rw [e2] at b2 hQ
      rw [if_neg (by simp), if_neg (by simp)] at hQ
      dsimp only at hQ
      simp (maxSteps := 1000000) (disch := (first | omega | (simp only [List.length_append, List.length_set, List.length_cons, List.length_nil, List.length_replicate, List.length_take, List.length_drop, List.length_map, List.length_range, true_and, and_true]; (try omega); done) | fail)) only [go_sem, Int.reduceEq, Int.reduceToNat, Nat.reduceAdd, Nat.reduceMul, Nat.reduceEqDiff, ↓reduceIte]
      refine callW [some 0] [] (b1) ?_
      simp (maxSteps := 1000000) (disch := (first | omega | (simp only [List.length_append, List.length_set, List.length_cons, List.length_nil, List.length_replicate, List.length_take, List.length_drop, List.length_map, List.length_range, true_and, and_true]; (try omega); done) | fail)) only [go_sem, Int.reduceEq, Int.reduceToNat, Nat.reduceAdd, Nat.reduceMul, Nat.reduceEqDiff, ↓reduceIte]
      refine callW [some 0] [] (b2) ?_
      simp (maxSteps := 1000000) (disch := (first | omega | (simp only [List.length_append, List.length_set, List.length_cons, List.length_nil, List.length_replicate, List.length_take, List.length_drop, List.length_map, List.length_range, true_and, and_true]; (try omega); done) | fail)) only [go_sem, Int.reduceEq, Int.reduceToNat, Nat.reduceAdd, Nat.reduceMul, Nat.reduceEqDiff, ↓reduceIte]
      exact endW [some 0] hQ
theorem hashDraws_fn {L : List Bool} (hL0 : L.length ≤ 9223372036854775807) : Fn1 Try.prog 12 [.row 1 (L.map be)] [] (.lit (.bool true)) [] := by
  refine fn1_of pl12 (by kernel_rfl) Try.call12 Try.func12 rfl (by kernel_rfl) rfl [.tmp 2] (by kernel_rfl) fun Q hQ => ?_
  simp (maxSteps := 1000000) (disch := (first | omega | (simp only [List.length_append, List.length_set, List.length_cons, List.length_nil, List.length_replicate, List.length_take, List.length_drop, List.length_map, List.length_range, true_and, and_true]; (try omega); done) | fail)) only [go_sem, Bool.and_true, Bool.true_and, Int.reduceEq, Int.reduceToNat, Nat.reduceAdd, Nat.reduceMul, Nat.reduceEqDiff, ↓reduceIte]
  refine callV0 (awake20_fn) rfl rfl ?_
  simp (maxSteps := 1000000) (disch := (first | omega | (simp only [List.length_append, List.length_set, List.length_cons, List.length_nil, List.length_replicate, List.length_take, List.length_drop, List.length_map, List.length_range, true_and, and_true]; (try omega); done) | fail)) only [go_sem, Bool.and_true, Bool.true_and, Int.reduceEq, Int.reduceToNat, Nat.reduceAdd, Nat.reduceMul, Nat.reduceEqDiff, ↓reduceIte]
  refine callV0 (few9_fn (n := 400) hL0 (by decide)) rfl rfl ?_
  have hL : (L.take 400).length ≤ 1048576 := by simp; omega
  generalize L.take 400 = L at *
  simp (maxSteps := 1000000) (disch := (first | omega | (simp only [List.length_append, List.length_set, List.length_cons, List.length_nil, List.length_replicate, List.length_take, List.length_drop, List.length_map, List.length_range, true_and, and_true]; (try omega); done) | fail)) only [go_sem, Bool.and_true, Bool.true_and, Int.reduceEq, Int.reduceToNat, Nat.reduceAdd, Nat.reduceMul, Nat.reduceEqDiff, ↓reduceIte]
  refine callW [] [] (newT_fn (L := L) hL) ?_
  have hd := hdraw_fn (L := L) hL
  have r1 := refBelow_fn (L := L) (n := 2305843009213693951) (p := 0) hL (by omega) (by decide) (by decide)
  have he1 := belowX_end (L := L) (n := 2305843009213693951) (p := 0) (by omega)
  rcases belowX_cases (L := L) (n := 2305843009213693951) (p := 0) (by decide) with e1 | ⟨x, q, hx, e1⟩
  · rw [e1] at hd r1
    rw [if_pos (.inl rfl), if_pos (.inl rfl)] at hd
    simp (maxSteps := 1000000) (disch := (first | omega | (simp only [List.length_append, List.length_set, List.length_cons, List.length_nil, List.length_replicate, List.length_take, List.length_drop, List.length_map, List.length_range, true_and, and_true]; (try omega); done) | fail)) only [go_sem, Bool.and_true, Bool.true_and, Int.reduceEq, Int.reduceToNat, Nat.reduceAdd, Nat.reduceMul, Nat.reduceEqDiff, ↓reduceIte]
    refine callW [some 0] [] (hd) ?_
    simp (maxSteps := 1000000) (disch := (first | omega | (simp only [List.length_append, List.length_set, List.length_cons, List.length_nil, List.length_replicate, List.length_take, List.length_drop, List.length_map, List.length_range, true_and, and_true]; (try omega); done) | fail)) only [go_sem, Bool.and_true, Bool.true_and, Int.reduceEq, Int.reduceToNat, Nat.reduceAdd, Nat.reduceMul, Nat.reduceEqDiff, ↓reduceIte]
    refine callV0 (r1) rfl rfl ?_
    simp (maxSteps := 1000000) (disch := (first | omega | (simp only [List.length_append, List.length_set, List.length_cons, List.length_nil, List.length_replicate, List.length_take, List.length_drop, List.length_map, List.length_range, true_and, and_true]; (try omega); done) | fail)) only [go_sem, Bool.and_true, Bool.true_and, Int.reduceEq, Int.reduceToNat, Nat.reduceAdd, Nat.reduceMul, Nat.reduceEqDiff, ↓reduceIte]
    refine callT (deadT_fn (L := L) (p := L.length) (d := true)) ?_
    simp (maxSteps := 1000000) (disch := (first | omega | (simp only [List.length_append, List.length_set, List.length_cons, List.length_nil, List.length_replicate, List.length_take, List.length_drop, List.length_map, List.length_range, true_and, and_true]; (try omega); done) | fail)) only [go_sem, Bool.and_true, Bool.true_and, Int.reduceEq, Int.reduceToNat, Nat.reduceAdd, Nat.reduceMul, Nat.reduceEqDiff, ↓reduceIte]
    exact endW [] hQ
  · rw [e1] at hd r1 he1
    dsimp only at hd r1 he1
    have r2 := refBelow_fn (L := L) (n := 2305843009213693951) (p := q) hL he1.2 (by decide) (by decide)
    have he2 := belowX_end (L := L) (n := 2305843009213693951) (p := q) he1.2
    rw [show q - 0 = q by omega] at r1
    rcases belowX_cases (L := L) (n := 2305843009213693951) (p := q) (by decide) with e2 | ⟨y, r, hy, e2⟩
    · rw [e2] at hd r2
      rw [if_pos (.inr rfl), if_pos (.inr rfl)] at hd
      simp (maxSteps := 1000000) (disch := (first | omega | (simp only [List.length_append, List.length_set, List.length_cons, List.length_nil, List.length_replicate, List.length_take, List.length_drop, List.length_map, List.length_range, true_and, and_true]; (try omega); done) | fail)) only [go_sem, Bool.and_true, Bool.true_and, Int.reduceEq, Int.reduceToNat, Nat.reduceAdd, Nat.reduceMul, Nat.reduceEqDiff, ↓reduceIte]
      refine callW [some 0] [] (hd) ?_
      simp (maxSteps := 1000000) (disch := (first | omega | (simp only [List.length_append, List.length_set, List.length_cons, List.length_nil, List.length_replicate, List.length_take, List.length_drop, List.length_map, List.length_range, true_and, and_true]; (try omega); done) | fail)) only [go_sem, Bool.and_true, Bool.true_and, Int.reduceEq, Int.reduceToNat, Nat.reduceAdd, Nat.reduceMul, Nat.reduceEqDiff, ↓reduceIte]
      refine callV0 (r1) rfl rfl ?_
      simp (maxSteps := 1000000) (disch := (first | omega | (simp only [List.length_append, List.length_set, List.length_cons, List.length_nil, List.length_replicate, List.length_take, List.length_drop, List.length_map, List.length_range, true_and, and_true]; (try omega); done) | fail)) only [go_sem, Bool.and_true, Bool.true_and, Int.reduceEq, Int.reduceToNat, Nat.reduceAdd, Nat.reduceMul, Nat.reduceEqDiff, ↓reduceIte]
      refine callV0 (r2) rfl rfl ?_
      simp (maxSteps := 1000000) (disch := (first | omega | (simp only [List.length_append, List.length_set, List.length_cons, List.length_nil, List.length_replicate, List.length_take, List.length_drop, List.length_map, List.length_range, true_and, and_true]; (try omega); done) | fail)) only [go_sem, Bool.and_true, Bool.true_and, Int.reduceEq, Int.reduceToNat, Nat.reduceAdd, Nat.reduceMul, Nat.reduceEqDiff, ↓reduceIte]
      refine callT (deadT_fn (L := L) (p := L.length) (d := true)) ?_
      simp (maxSteps := 1000000) (disch := (first | omega | (simp only [List.length_append, List.length_set, List.length_cons, List.length_nil, List.length_replicate, List.length_take, List.length_drop, List.length_map, List.length_range, true_and, and_true]; (try omega); done) | fail)) only [go_sem, Bool.and_true, Bool.true_and, Int.reduceEq, Int.reduceToNat, Nat.reduceAdd, Nat.reduceMul, Nat.reduceEqDiff, ↓reduceIte]
      exact endW [] hQ
    · rw [e2] at hd r2 he2
      rw [if_neg (by simp), if_neg (by simp)] at hd
      dsimp only at hd r2 he2
      have hs : ((q : Int) + ((r - q : Nat) : Int)) = (r : Int) := by omega
      simp (maxSteps := 1000000) (disch := (first | omega | (simp only [List.length_append, List.length_set, List.length_cons, List.length_nil, List.length_replicate, List.length_take, List.length_drop, List.length_map, List.length_range, true_and, and_true]; (try omega); done) | fail)) only [go_sem, Bool.and_true, Bool.true_and, Int.reduceEq, Int.reduceToNat, Nat.reduceAdd, Nat.reduceMul, Nat.reduceEqDiff, ↓reduceIte]
      refine callW [some 0] [] (hd) ?_
      simp (maxSteps := 1000000) (disch := (first | omega | (simp only [List.length_append, List.length_set, List.length_cons, List.length_nil, List.length_replicate, List.length_take, List.length_drop, List.length_map, List.length_range, true_and, and_true]; (try omega); done) | fail)) only [go_sem, Bool.and_true, Bool.true_and, Int.reduceEq, Int.reduceToNat, Nat.reduceAdd, Nat.reduceMul, Nat.reduceEqDiff, ↓reduceIte]
      refine callV0 (r1) rfl rfl ?_
      simp (maxSteps := 1000000) (disch := (first | omega | (simp only [List.length_append, List.length_set, List.length_cons, List.length_nil, List.length_replicate, List.length_take, List.length_drop, List.length_map, List.length_range, true_and, and_true]; (try omega); done) | fail)) only [go_sem, Bool.and_true, Bool.true_and, Int.reduceEq, Int.reduceToNat, Nat.reduceAdd, Nat.reduceMul, Nat.reduceEqDiff, ↓reduceIte]
      refine callV0 (r2) rfl rfl ?_
      simp (maxSteps := 1000000) (disch := (first | omega | (simp only [List.length_append, List.length_set, List.length_cons, List.length_nil, List.length_replicate, List.length_take, List.length_drop, List.length_map, List.length_range, true_and, and_true]; (try omega); done) | fail)) only [go_sem, Bool.and_true, Bool.true_and, decide_true, Int.reduceEq, Int.reduceToNat, Nat.reduceAdd, Nat.reduceMul, Nat.reduceEqDiff, ↓reduceIte]
      refine callT (readT_fn (L := L) (p := r) (d := false)) ?_
      simp (maxSteps := 1000000) (disch := (first | omega | (simp only [List.length_append, List.length_set, List.length_cons, List.length_nil, List.length_replicate, List.length_take, List.length_drop, List.length_map, List.length_range, true_and, and_true]; (try omega); done) | fail)) only [go_sem, hs, Bool.and_true, Bool.true_and, decide_true, Int.reduceEq, Int.reduceToNat, Nat.reduceAdd, Nat.reduceMul, Nat.reduceEqDiff, ↓reduceIte]
      refine callV0 (checkOk_fn (by omega) (by omega)) rfl rfl ?_
      simp (maxSteps := 1000000) (disch := (first | omega | (simp only [List.length_append, List.length_set, List.length_cons, List.length_nil, List.length_replicate, List.length_take, List.length_drop, List.length_map, List.length_range, true_and, and_true]; (try omega); done) | fail)) only [go_sem, Bool.and_true, Bool.true_and, Int.reduceEq, Int.reduceToNat, Nat.reduceAdd, Nat.reduceMul, Nat.reduceEqDiff, ↓reduceIte]
      exact endW [] hQ
end Go.Proofs.Ytdpekigpjihnkaa
