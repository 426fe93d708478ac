import Derived.Test.YthlndppcjcjmlaaGreatDoorUe
/-! Law 6: what its statements share. -/
namespace Go.Proofs.YthlndppcjcjmlaaGreatDoor
open Go.Eng Go.Vx
set_option linter.unusedSimpArgs false
set_option linter.unusedVariables false
set_option maxRecDepth 100000
theorem is6_fn {a b : Nat} {x : Int} (hx : x = (a : Int) - b) (hl : (wg x.natAbs).length ≤ 100000) (ha : (dg a).length ≤ 99999) (hb : (dg b).length ≤ 99999) : Fn1 Tryz.prog 40 [WV x, ZD a b] [] (.lit (.bool true)) [] := by
  have h1 := wtext_fn hl
  have h2 := ztext_fn hx ha hb
  refine fn1N_of pl40 (by kernel_rfl) Tryz.call40 Tryz.func40 rfl (by kernel_rfl) rfl [.tmp 4] (by kernel_rfl) fun Q hQ => ?_
  repeat (first | (refine callV0 (h1) rfl rfl ?_) | (refine callV0 (h2) rfl rfl ?_) | (simp (maxSteps := 1000000) (disch := (first | omega | (simp only [lnA, List.length_map, List.length_range, true_and, and_true]; (try omega); done) | fail)) only [go_sem, eq_self, decide_true, Int.reduceEq, Int.reduceToNat, Nat.reduceAdd, Nat.reduceMul, Nat.reduceEqDiff, ↓reduceIte]))
  exact endW [] hQ
theorem awake6_fn : Fn1 Tryz.prog 36 [] [] (.lit (.bool true)) [] := by
  have o1 := wof_fn (n := -7) (by decide) (by decide)
  have o2 := wof_fn (n := 2) (by decide) (by decide)
  have w7 : (wg 7).length ≤ 1 := wg_one (by decide)
  have w2 : (wg 2).length ≤ 1 := wg_one (by decide)
  have w4 : (wg 4).length ≤ 1 := wg_one (by decide)
  have w1 : (wg 1).length ≤ 1 := wg_one (by decide)
  have d := wdiv_fn (x := -7) (y := 2) (by decide) (by rw [show (-7 : Int).natAbs = 7 from rfl]; omega) (show (wg 2).length ≤ 999998 by omega)
  rw [show (-7 : Int) / 2 = -4 from by decide, show (-7 : Int) % 2 = 1 from by decide] at d
  have t1 := wtext_fn (x := -4) (by rw [show (-4 : Int).natAbs = 4 from rfl]; omega)
  have t2 := wtext_fn (x := 1) (show (wg 1).length ≤ 100000 by omega)
  rw [show zS (-4) = [45, 52] by unfold zS; rw [if_pos (by decide), show (-4 : Int).natAbs = 4 from rfl, zS_lit 4 (by decide)]; decide] at t1
  rw [show zS 1 = [49] by unfold zS; rw [if_neg (by decide), show (1 : Int).natAbs = 1 from rfl, zS_lit 1 (by decide)]; decide] at t2
  generalize (-4 : Int) = A at *
  refine fn1N_of pl36 (by kernel_rfl) Tryz.call36 Tryz.func36 rfl (by kernel_rfl) rfl [.tmp 0] (by kernel_rfl) fun Q hQ => ?_
  repeat (first | (refine callV0 (o1) rfl rfl ?_) | (refine callV0 (o2) rfl rfl ?_) | (refine callV0 (d) rfl rfl ?_) | (refine callV0 (t1) rfl rfl ?_) | (refine callV0 (t2) rfl rfl ?_) | (simp (maxSteps := 1000000) (disch := (first | omega | (simp only [lnA, List.length_map, List.length_range, true_and, and_true]; (try omega); done) | fail)) only [go_sem, eq_self, decide_true, Int.reduceEq, Int.reduceToNat, Nat.reduceAdd, Nat.reduceMul, Nat.reduceEqDiff, ↓reduceIte]))
  exact endW [] hQ
/-- What a draw says. -/
theorem both6_of {W0 : List Nat} {b : Bool} (hW0 : ∀ d ∈ W0, d < 18446744073709551616) (lW : W0.length ≤ 9223372036854775807) : ∃ (z : Int) (p m : Nat), z = (p : Int) - m ∧ (wg z.natAbs).length ≤ 5 ∧ (dg p).length ≤ 25 ∧ (dg m).length ≤ 25 ∧
    Fn1 Tryz.prog 37 [.agg [.row 1 ((nl W0).map (ie .u64)), .lit (.bool b)]] [] (.tup [WV z, ZD p m]) [] := by
  obtain ⟨fp, hP, hPl⟩ := few_of (k := 5) hW0 lW (by decide)
  generalize W0.take 5 = W at *
  have oa := of_fn hP (by omega)
  have la := val_len hP hPl
  have da := wv_len hP
  have za := zmake_fn (b := b) hP (by omega)
  unfold wv at za da
  generalize valB 18446744073709551616 W = v at *
  have wm := wmake_fn (b := b) (n := v) (by omega)
  have d0 : (dg 0).length ≤ 25 := by rw [dg_zero]; decide
  cases b with
  | false =>
    refine ⟨sg false v, v, 0, by simp [sg], by rw [sg_abs]; exact la, by omega, d0, ?_⟩
    simp only [Bool.false_eq_true, if_false] at za
    refine fn1N_of pl37 (by kernel_rfl) Tryz.call37 Tryz.func37 rfl (by kernel_rfl) rfl [.cell 2 29, .cell 3 35] (by kernel_rfl) fun Q hQ => ?_
    repeat (first | (refine callV0 (fp) rfl rfl ?_) | (refine callV0 (oa) rfl rfl ?_) | (refine callV0 (za) rfl rfl ?_) | (refine callV0 (wm) rfl rfl ?_) | (simp (maxSteps := 1000000) (disch := (first | omega | (simp only [lnA, List.length_map, List.length_range, true_and, and_true]; (try omega); done) | fail)) only [go_sem, Int.reduceEq, Int.reduceToNat, Nat.reduceAdd, Nat.reduceMul, Nat.reduceEqDiff, ↓reduceIte]))
    exact endW [] hQ
  | true =>
    refine ⟨sg true v, 0, v, by simp [sg], by rw [sg_abs]; exact la, d0, by omega, ?_⟩
    simp only [if_true] at za
    refine fn1N_of pl37 (by kernel_rfl) Tryz.call37 Tryz.func37 rfl (by kernel_rfl) rfl [.cell 2 29, .cell 3 35] (by kernel_rfl) fun Q hQ => ?_
    repeat (first | (refine callV0 (fp) rfl rfl ?_) | (refine callV0 (oa) rfl rfl ?_) | (refine callV0 (za) rfl rfl ?_) | (refine callV0 (wm) rfl rfl ?_) | (simp (maxSteps := 1000000) (disch := (first | omega | (simp only [lnA, List.length_map, List.length_range, true_and, and_true]; (try omega); done) | fail)) only [go_sem, Int.reduceEq, Int.reduceToNat, Nat.reduceAdd, Nat.reduceMul, Nat.reduceEqDiff, ↓reduceIte]))
    exact endW [] hQ
end Go.Proofs.YthlndppcjcjmlaaGreatDoor
