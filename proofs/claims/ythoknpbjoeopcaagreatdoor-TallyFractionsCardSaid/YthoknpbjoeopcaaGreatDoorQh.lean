import Derived.Test.YthoknpbjoeopcaaGreatDoorQc
import Derived.Test.YthoknpbjoeopcaaGreatDoorQg
import Derived.Test.YthoknpbjoeopcaaGreatDoorRc
/-! RatTells. -/
namespace Go.Proofs.YthoknpbjoeopcaaGreatDoor
open Go.Eng Go.Vx
set_option linter.unusedSimpArgs false
set_option linter.unusedVariables false
set_option maxRecDepth 100000
theorem cut_app {a c : List UInt8} (h : ∀ b ∈ a, b ≠ 47) : cutA (a ++ 47 :: c) = a ∧ cutB (a ++ 47 :: c) = c ∧ hasL (a ++ 47 :: c) = true := by
  induction a with
  | nil => exact ⟨by simp [cutA], by simp [cutB], by simp [hasL]⟩
  | cons b a ih =>
    obtain ⟨h1, h2, h3⟩ := ih (fun x hx => h x (by simp [hx]))
    have hb : (b != 47) = true := by simpa using h b (by simp)
    refine ⟨?_, ?_, ?_⟩
    · unfold cutA at *
      rw [List.cons_append, List.takeWhile_cons, if_pos hb, h1]
    · unfold cutB at *
      rw [List.cons_append, List.dropWhile_cons, if_pos hb, h2]
    · unfold hasL at *
      rw [List.cons_append, List.any_cons, h3, Bool.or_true]
theorem cut_none {a : List UInt8} (h : ∀ b ∈ a, b ≠ 47) : cutA a = a ∧ hasL a = false := by
  have hh : hasL a = false := by
    unfold hasL
    rw [List.any_eq_false]
    intro b hb
    simpa using h b hb
  exact ⟨((ix_cut a).1 hh).2, hh⟩
theorem zS_no47 (z : Int) : ∀ b ∈ zS z, b ≠ 47 := fun b hb e => by
  subst e
  unfold zS at hb
  split at hb
  · rcases List.mem_cons.1 hb with h | h
    · exact absurd h (by decide)
    · exact absurd (decS_dig 47 h) (by decide)
  · exact absurd (decS_dig 47 hb) (by decide)
theorem rparse_qS {x : Rat} (hx : RS 80 x) : Fn1 Tryz.prog 29 [.lit (.string (bs (qS x)))] [] (.tup [RV x, .lit (.int .i64 0)]) [] := by
  have l1 := zS_len hx.1
  have l2 := decS_wg hx.2
  have ql : (qS x).length ≤ 9223372036854775807 := by
    unfold qS
    rw [List.length_append]
    split <;> simp <;> omega
  have c := cutl_fn ql
  have w := wparse_zS (z := x.num) (by have := hx.1; omega)
  have t := rtxt_fn (hx.mono (show 80 ≤ 5000 by decide))
  by_cases h : x.den = 1
  · have hq : qS x = zS x.num := by unfold qS; rw [if_pos h, List.append_nil]
    obtain ⟨n1, n2⟩ := cut_none (zS_no47 x.num)
    rw [hq, n1, n2, if_neg (by decide)] at c
    have hr : RV x = .agg [.row 1 ((nl (wg x.num.natAbs)).map (ie .u64)), .lit (.bool (decide (x.num < 0))), .row 1 []] := by
      unfold RV
      rw [h, show 1 - 1 = 0 from rfl, wg_zero]
      rfl
    rw [hq, hr]
    generalize zS x.num = s at *
    refine fn1N_of pl29 (by kernel_rfl) Tryz.call29 Tryz.func29 rfl (by kernel_rfl) rfl [.cell 2 51, .tmp 3] (by kernel_rfl) fun Q hQ => ?_
    repeat (first | (refine callV0 (c) rfl rfl ?_) | (refine callV0 (w) rfl rfl ?_) | (simp (maxSteps := 1000000) (disch := (first | omega | (simp only [lnA, List.length_map, List.length_range, true_and, and_true]; (try omega); done) | fail)) only [go_sem, Int.reduceEq, Int.reduceToNat, Nat.reduceAdd, Nat.reduceMul, Nat.reduceEqDiff, ↓reduceIte]))
    exact endW [] hQ
  · have hq : qS x = zS x.num ++ 47 :: decS x.den := by unfold qS; rw [if_neg h]
    obtain ⟨n1, n2, n3⟩ := cut_app (a := zS x.num) (c := decS x.den) (zS_no47 x.num)
    rw [← hq] at n1 n2 n3
    rw [n1, n2, n3, if_pos rfl] at c
    have np := nparse_decS (n := x.den) (by have := hx.2; omega)
    have wm := wmake_fn (b := false) (n := x.den) (by have := hx.2; omega)
    rw [show sg false x.den = (x.den : Int) from rfl] at wm
    have fr := rfrac_fn (p := x.num) (q := (x.den : Int)) (by have := x.den_nz; omega) (by have := hx.1; omega) (by rw [Int.natAbs_natCast]; have := hx.2; omega)
    rw [div_mk, Rat.mkRat_self] at fr
    clear hq n1 n2 n3
    generalize qS x = s at *
    generalize zS x.num = s1 at *
    generalize decS x.den = s2 at *
    refine fn1N_of pl29 (by kernel_rfl) Tryz.call29 Tryz.func29 rfl (by kernel_rfl) rfl [.cell 2 51, .tmp 3] (by kernel_rfl) fun Q hQ => ?_
    repeat (first | (refine callV0 (c) rfl rfl ?_) | (refine callV0 (w) rfl rfl ?_) | (refine callV0 (np) rfl rfl ?_) | (refine callV0 (wm) rfl rfl ?_) | (refine callV0 (fr) rfl rfl ?_) | (refine callV0 (t) rfl rfl ?_) | (simp (maxSteps := 1000000) (disch := (first | omega | (simp only [lnA, List.length_map, List.length_range, true_and, and_true]; (try omega); done) | fail)) only [go_sem, eq_self, decide_true, Int.reduceEq, Int.reduceToNat, Nat.reduceAdd, Nat.reduceMul, Nat.reduceEqDiff, ↓reduceIte]))
    exact endW [] hQ
end Go.Proofs.YthoknpbjoeopcaaGreatDoor

/-! Package tallymarkref05: powers. -/
namespace Go.Proofs.YthoknpbjoeopcaaGreatDoor
open Go.Eng Go.Vx
set_option linter.unusedSimpArgs false
set_option linter.unusedVariables false
set_option maxRecDepth 100000
end Go.Proofs.YthoknpbjoeopcaaGreatDoor
