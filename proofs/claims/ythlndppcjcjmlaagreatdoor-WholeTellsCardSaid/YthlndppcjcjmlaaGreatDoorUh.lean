import Derived.Test.YthlndppcjcjmlaaGreatDoorQg
import Derived.Test.YthlndppcjcjmlaaGreatDoorUf
/-! WholeTells. -/
namespace Go.Proofs.YthlndppcjcjmlaaGreatDoor
open Go.Eng Go.Vx
set_option linter.unusedSimpArgs false
set_option linter.unusedVariables false
set_option maxRecDepth 100000
theorem zsmall_ex {n : Int} (n0 : -9223372036854775808 ≤ n) (n1 : n ≤ 9223372036854775807) : ∃ p m : Nat, n = (p : Int) - m ∧ (dg p).length ≤ 5 ∧ (dg m).length ≤ 5 ∧ Fn1 Tryz.prog 41 [.lit (.int .i64 n)] [] (ZD p m) [] := by
  have d0 : (dg 0).length ≤ 5 := by rw [dg_zero]; decide
  by_cases h : n < 0
  · obtain ⟨k, rfl⟩ : ∃ k : Nat, n = -((k : Int) + 1) := ⟨n.natAbs - 1, by omega⟩
    have o := lof_fn (W := [k + 1]) (by simp; omega) (by simp)
    rw [show wv [k + 1] = k + 1 by simp [wv, valB], show nl [k + 1] = [((k + 1 : Nat) : Int)] from rfl] at o
    refine ⟨0, k + 1, by omega, d0, dg_len (Nat.lt_of_lt_of_le (show k + 1 < 9223372036854775809 by omega) (by decide)), ?_⟩
    unfold ZD
    rw [dgz]
    have e1 : -(-((k : Int) + 1) + 1) = (k : Int) := by omega
    have e2 : (k : Int) + 1 = ((k + 1 : Nat) : Int) := by omega
    have e3 : 0 - (-((k : Int) + 1) + 1) = (k : Int) := by omega
    have e4 : IntKind.i64.wrap (0 - (-((k : Int) + 1) + 1)) = (k : Int) := by rw [e3]; exact wrap_i64 (by omega)
    refine fn1N_of pl41 (by kernel_rfl) Tryz.call41 Tryz.func41 rfl (by kernel_rfl) rfl [.cell 2 35] (by kernel_rfl) fun Q hQ => ?_
    simp (maxSteps := 1000000) (disch := (first | omega | (simp only [lnA, List.length_map, List.length_range, true_and, and_true]; (try omega); done) | fail)) only [go_sem, e4, e2, Int.reduceEq, Int.reduceToNat, Nat.reduceAdd, Nat.reduceMul, Nat.reduceEqDiff, ↓reduceIte]
    refine callW [] [1] (o) ?_
    simp (maxSteps := 1000000) (disch := (first | omega | (simp only [lnA, List.length_map, List.length_range, true_and, and_true]; (try omega); done) | fail)) only [go_sem, Int.reduceEq, Int.reduceToNat, Nat.reduceAdd, Nat.reduceMul, Nat.reduceEqDiff, ↓reduceIte]
    exact endW [] hQ
  · obtain ⟨k, rfl⟩ := Int.eq_ofNat_of_zero_le (show 0 ≤ n by omega)
    have o := lof_fn (W := [k]) (by simp; omega) (by simp)
    rw [show wv [k] = k by simp [wv, valB], show nl [k] = [(k : Int)] from rfl] at o
    refine ⟨k, 0, by omega, dg_len (Nat.lt_of_lt_of_le (show k < 9223372036854775809 by omega) (by decide)), d0, ?_⟩
    unfold ZD
    rw [dgz]
    refine fn1N_of pl41 (by kernel_rfl) Tryz.call41 Tryz.func41 rfl (by kernel_rfl) rfl [.cell 2 35] (by kernel_rfl) fun Q hQ => ?_
    simp (maxSteps := 1000000) (disch := (first | omega | (simp only [lnA, List.length_map, List.length_range, true_and, and_true]; (try omega); done) | fail)) only [go_sem, Int.reduceEq, Int.reduceToNat, Nat.reduceAdd, Nat.reduceMul, Nat.reduceEqDiff, ↓reduceIte]
    refine callW [] [1] (o) ?_
    simp (maxSteps := 1000000) (disch := (first | omega | (simp only [lnA, List.length_map, List.length_range, true_and, and_true]; (try omega); done) | fail)) only [go_sem, Int.reduceEq, Int.reduceToNat, Nat.reduceAdd, Nat.reduceMul, Nat.reduceEqDiff, ↓reduceIte]
    exact endW [] hQ
set_option maxHeartbeats 8000000 in
theorem wholeTells_fn {P0 : List Nat} {b : Bool} {n : Int} (hP0 : ∀ d ∈ P0, d < 18446744073709551616) (lP : P0.length ≤ 9223372036854775807) (n0 : -9223372036854775808 ≤ n) (n1 : n ≤ 9223372036854775807) :
    Fn1 Tryz.prog 6 [.agg [.row 1 ((nl P0).map (ie .u64)), .lit (.bool b)], .lit (.int .i64 n)] [] (.lit (.bool true)) [] := by
  obtain ⟨x, p, m, hx, lx, lp, lm, fx⟩ := both6_of (b := b) hP0 lP
  obtain ⟨q, k, hn, lq, lk, fs⟩ := zsmall_ex n0 n1
  have ln : (wg n.natAbs).length ≤ 1 := wg_one (by omega)
  have o := wof_fn n0 n1
  have t := wtext_fn (x := x) (by omega)
  have pr := wparse_zS (z := x) (by omega)
  have i1 := is6_fn hx (by omega) (by omega) (by omega)
  have i2 := is6_fn (x := n) hn (by omega) (by omega) (by omega)
  have g1 := wneg_fn (z := x)
  have g2 := zneg_fn hx (by omega) (by omega)
  have g3 := wabs_fn (z := x)
  have g4 := ntext_fn (n := x.natAbs) (by omega)
  have g5 := zabs_fn hx (by omega) (by omega)
  have zl : (dg x.natAbs).length ≤ 25 := by
    by_cases h : m ≤ p
    · exact Nat.le_trans (dg_mono (show x.natAbs ≤ p by omega)) lp
    · exact Nat.le_trans (dg_mono (show x.natAbs ≤ m by omega)) lm
  have g6 := rtext_fn (n := x.natAbs) (by omega)
  have c1 := wcmp_fn (x := x) (y := x) (by omega) (by omega)
  rw [show cmpZ x x = 0 by unfold cmpZ; rw [if_neg (by omega), if_neg (by omega)]] at c1
  have c2 := wcmp_fn (x := x) (y := n) (by omega) (by omega)
  have c3 := zcmp_fn hx hn (by omega) (by omega) (by omega) (by omega)
  obtain ⟨ng, hng⟩ : ∃ ng, decide (x < 0) = ng := ⟨_, rfl⟩
  rw [hng] at g1 g2
  generalize zS x = s at *
  generalize decS x.natAbs = s' at *
  clear hx hn hng
  refine fn1N_of pl6 (by kernel_rfl) Tryz.call6 Tryz.func6 rfl (by kernel_rfl) rfl [.tmp 4] (by kernel_rfl) fun Q hQ => ?_
  repeat (first | (refine callV0 (awake6_fn) rfl rfl ?_) | (refine callV0 (fx) rfl rfl ?_) | (refine callV0 (fs) rfl rfl ?_) | (refine callV0 (o) rfl rfl ?_) | (refine callV0 (t) rfl rfl ?_) | (refine callV0 (pr) rfl rfl ?_) | (refine callV0 (i1) rfl rfl ?_) | (refine callV0 (i2) rfl rfl ?_) | (refine callV0 (g1) rfl rfl ?_) | (refine callV0 (g2) rfl rfl ?_) | (refine callV0 (g3) rfl rfl ?_) | (refine callV0 (g4) rfl rfl ?_) | (refine callV0 (g5) rfl rfl ?_) | (refine callV0 (g6) rfl rfl ?_) | (refine callV0 (c1) rfl rfl ?_) | (refine callV0 (c2) rfl rfl ?_) | (refine callV0 (c3) rfl rfl ?_) | (simp (maxSteps := 1000000) (disch := (first | omega | (simp only [lnA, List.length_map, List.length_range, true_and, and_true]; (try omega); done) | fail)) only [go_sem, eq_self, decide_true, decide_false, List.append_eq, List.cons_append, List.nil_append, beq_self_eq_true, Int.reduceEq, Int.reduceToNat, Nat.reduceAdd, Nat.reduceMul, Nat.reduceEqDiff, ↓reduceIte]))
  exact endW [] hQ
end Go.Proofs.YthlndppcjcjmlaaGreatDoor
