import Derived.Test.YtnfmpphlkalbfaaGreatDoorKd
/-! Law 28: what is near, what meets. -/
namespace Go.Proofs.YtnfmpphlkalbfaaGreatDoor
open Go.Eng Go.Vx
set_option linter.unusedSimpArgs false
set_option linter.unusedVariables false
set_option maxRecDepth 100000
theorem RS_one : RS 1 (1 : Rat) := RS_small (z := 1) (by decide)
theorem RS_two : RS 1 ((2 : Int) : Rat) := RS_small (by decide)
theorem rof1_fn : Fn1 Tryz.prog 10 [.lit (.int .i64 1)] [] (RV 1) [] := rof_fn (n := 1) (by decide) (by decide)
theorem good28_fn {L H : Rat} {N : Nat} {sc : Bool} (hN : N ≤ 64) (sl : RS 90000 L) (sh : RS 90000 H) (hle : L ≤ H) (hw : if sc = true ∧ 1 < H then H - L ≤ hf N * H else H - L ≤ hf N) :
    Fn1 Tryz.prog 14 [BV L H, .lit (.int .i64 (N : Int)), .lit (.bool sc)] [] (.lit (.bool true)) [] := by
  obtain ⟨c1, h1, f1⟩ := rcmp_le (sl.mono (show 90000 ≤ 400000 by decide)) (sh.mono (show 90000 ≤ 400000 by decide)) hle
  have hh := rhalf_fn (N := N) (by omega)
  rw [show mkRat 1 (2 ^ N) = hf N from rfl] at hh
  have su := RS_hf (N := N) (by omega)
  have o1 := rof1_fn
  have sd := RS_sub sh sl
  have f2 := rsub_fn (sh.mono (show 90000 ≤ 400000 by decide)) (sl.mono (show 90000 ≤ 400000 by decide))
  have m := rmul_fn (su.mono (show 129 ≤ 400000 by decide)) (sh.mono (show 90000 ≤ 400000 by decide))
  have sm := RS_mul su sh
  cases sc with
  | false =>
    rw [if_neg (by simp)] at hw
    obtain ⟨c2, h2, f3⟩ := rcmp_le (sd.mono (show _ ≤ 400000 by decide)) (su.mono (show 129 ≤ 400000 by decide)) hw
    clear sl sh su sd sm hw hle
    generalize H - L = d at *
    generalize hf N = u at *
    refine fn1N_of pl14 (by kernel_rfl) Tryz.call14 Tryz.func14 rfl (by kernel_rfl) rfl [.tmp 6] (by kernel_rfl) fun Q hQ => ?_
    repeat (first | (refine callV0 (f1) rfl rfl ?_) | (refine callV0 (hh) rfl rfl ?_) | (refine callV0 (f2) rfl rfl ?_) | (refine callV0 (f3) rfl rfl ?_) | (simp (maxSteps := 1000000) (disch := (first | omega | (simp only [lnA, List.length_map, List.length_range, true_and, and_true]; (try omega); done) | fail)) only [go_sem, List.append_eq, List.cons_append, List.nil_append, Int.reduceEq, Int.reduceToNat, Nat.reduceAdd, Nat.reduceMul, Nat.reduceEqDiff, ↓reduceIte]))
    exact endW [] hQ
  | true =>
    by_cases h : 1 < H
    · rw [if_pos ⟨rfl, h⟩] at hw
      obtain ⟨c2, h2, f3⟩ := rcmp_le (sd.mono (show _ ≤ 400000 by decide)) (sm.mono (show _ ≤ 400000 by decide)) hw
      obtain ⟨c3, h3, f4⟩ := rcmp_gt (sh.mono (show 90000 ≤ 400000 by decide)) (RS_one.mono (show 1 ≤ 400000 by decide)) h
      clear sl sh su sd sm hw hle h
      generalize H - L = d at *
      generalize hf N * H = u2 at *
      generalize hf N = u at *
      generalize (1 : Rat) = one at *
      refine fn1N_of pl14 (by kernel_rfl) Tryz.call14 Tryz.func14 rfl (by kernel_rfl) rfl [.tmp 6] (by kernel_rfl) fun Q hQ => ?_
      repeat (first | (refine callV0 (f1) rfl rfl ?_) | (refine callV0 (hh) rfl rfl ?_) | (refine callV0 (f2) rfl rfl ?_) | (refine callV0 (f3) rfl rfl ?_) | (refine callV0 (o1) rfl rfl ?_) | (refine callV0 (f4) rfl rfl ?_) | (refine callV0 (m) rfl rfl ?_) | (simp (maxSteps := 1000000) (disch := (first | omega | (simp only [lnA, List.length_map, List.length_range, true_and, and_true]; (try omega); done) | fail)) only [go_sem, List.append_eq, List.cons_append, List.nil_append, Int.reduceEq, Int.reduceToNat, Nat.reduceAdd, Nat.reduceMul, Nat.reduceEqDiff, ↓reduceIte]))
      exact endW [] hQ
    · rw [if_neg (fun e => h e.2)] at hw
      obtain ⟨c2, h2, f3⟩ := rcmp_le (sd.mono (show _ ≤ 400000 by decide)) (su.mono (show 129 ≤ 400000 by decide)) hw
      obtain ⟨c3, h3, f4⟩ := rcmp_le (sh.mono (show 90000 ≤ 400000 by decide)) (RS_one.mono (show 1 ≤ 400000 by decide)) (Rat.not_lt.1 h)
      clear sl sh su sd sm hw hle h
      generalize H - L = d at *
      generalize hf N * H = u2 at *
      generalize hf N = u at *
      generalize (1 : Rat) = one at *
      refine fn1N_of pl14 (by kernel_rfl) Tryz.call14 Tryz.func14 rfl (by kernel_rfl) rfl [.tmp 6] (by kernel_rfl) fun Q hQ => ?_
      repeat (first | (refine callV0 (f1) rfl rfl ?_) | (refine callV0 (hh) rfl rfl ?_) | (refine callV0 (f2) rfl rfl ?_) | (refine callV0 (f3) rfl rfl ?_) | (refine callV0 (o1) rfl rfl ?_) | (refine callV0 (f4) rfl rfl ?_) | (simp (maxSteps := 1000000) (disch := (first | omega | (simp only [lnA, List.length_map, List.length_range, true_and, and_true]; (try omega); done) | fail)) only [go_sem, List.append_eq, List.cons_append, List.nil_append, Int.reduceEq, Int.reduceToNat, Nat.reduceAdd, Nat.reduceMul, Nat.reduceEqDiff, ↓reduceIte]))
      exact endW [] hQ
theorem meet_fn {L H l h : Rat} (sl : RS 400000 L) (sh : RS 400000 H) (sl' : RS 400000 l) (sh' : RS 400000 h) (h1 : L ≤ h) (h2 : l ≤ H) : Fn1 Tryz.prog 17 [BV L H, RV l, RV h] [] (.lit (.bool true)) [] := by
  obtain ⟨c1, k1, f1⟩ := rcmp_le sl sh' h1
  obtain ⟨c2, k2, f2⟩ := rcmp_le sl' sh h2
  refine fn1N_of pl17 (by kernel_rfl) Tryz.call17 Tryz.func17 rfl (by kernel_rfl) rfl [.tmp 6] (by kernel_rfl) fun Q hQ => ?_
  repeat (first | (refine callV0 (f1) rfl rfl ?_) | (refine callV0 (f2) rfl rfl ?_) | (simp (maxSteps := 1000000) (disch := (first | omega | (simp only [lnA, List.length_map, List.length_range, true_and, and_true]; (try omega); done) | fail)) only [go_sem, Int.reduceEq, Int.reduceToNat, Nat.reduceAdd, Nat.reduceMul, Nat.reduceEqDiff, ↓reduceIte]))
  exact endW [] hQ
end Go.Proofs.YtnfmpphlkalbfaaGreatDoor
