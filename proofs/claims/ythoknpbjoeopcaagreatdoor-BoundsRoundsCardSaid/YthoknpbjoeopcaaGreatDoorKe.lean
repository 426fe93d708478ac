import Derived.Test.YthoknpbjoeopcaaGreatDoorKd
import Derived.Test.YthoknpbjoeopcaaGreatDoorQc
/-! BoundsRounds. -/
namespace Go.Proofs.YthoknpbjoeopcaaGreatDoor
open Go.Eng Go.Vx
set_option linter.unusedSimpArgs false
set_option linter.unusedVariables false
set_option maxRecDepth 100000
theorem int_den (z : Int) : ((z : Int) : Rat).den = 1 := rfl
set_option maxHeartbeats 8000000 in
theorem boundsRounds_fn {P0 Q0 : List Nat} {b : Bool} {bits : Int} (hP0 : ∀ d ∈ P0, d < 18446744073709551616) (lP : P0.length ≤ 9223372036854775807) (hQ0 : ∀ d ∈ Q0, d < 18446744073709551616) (lQ : Q0.length ≤ 9223372036854775807) :
    Fn1 Tryz.prog 5 [.agg [.row 1 ((nl P0).map (ie .u64)), .row 1 ((nl Q0).map (ie .u64)), .lit (.bool b)], .lit (.int .i64 bits)] [] (.lit (.bool true)) [] := by
  obtain ⟨x, p, m, d, -, -, sx, -, -, -, fx⟩ := both7_of (b := b) hP0 lP hQ0 lQ
  obtain ⟨B, hB⟩ : ∃ B : Nat, max 0 (min bits 512) = (B : Int) := ⟨(max 0 (min bits 512)).toNat, by omega⟩
  have hB2 : B ≤ 512 := by omega
  have sl := RS_dn' (B := B) (by omega) sx
  have sh := RS_up' (B := B) (by omega) sx
  have su := RS_hf (N := B) (by omega)
  have fd := down_fn hB (sx.mono (show 2 ≤ 100000 by decide))
  have fu := upB_fn hB (sx.mono (show 2 ≤ 90000 by decide))
  have hh := rhalf_fn (N := B) (by omega)
  rw [show mkRat 1 (2 ^ B) = hf B from rfl] at hh
  have hne : hf B ≠ 0 := fun e => by
    have := hf_pos B
    rw [e] at this
    exact absurd this (by decide +kernel)
  have v1 := rdiv_fn hne (sl.mono (show _ ≤ 400000 by decide)) (su.mono (show 129 ≤ 400000 by decide))
  have v2 := rdiv_fn hne (sh.mono (show _ ≤ 400000 by decide)) (su.mono (show 129 ≤ 400000 by decide))
  have q1 := RS_div (by decide) sl su
  have q2 := RS_div (by decide) sh su
  have w1 := rwhole_fn (q1.mono (show _ ≤ 1000000 by decide))
  have w2 := rwhole_fn (q2.mono (show _ ≤ 1000000 by decide))
  rw [dn_whole] at v1 w1
  rw [up_whole] at v2 w2
  rw [int_den, decide_eq_true rfl] at w1 w2
  obtain ⟨c1, h1, f1⟩ := rcmp_le (sl.mono (show _ ≤ 400000 by decide)) (sx.mono (show 2 ≤ 400000 by decide)) (dn_le x B)
  obtain ⟨c2, h2, f2⟩ := rcmp_le (sx.mono (show 2 ≤ 400000 by decide)) (sh.mono (show _ ≤ 400000 by decide)) (up_ge x B)
  have s1 := rsub_fn (sx.mono (show 2 ≤ 400000 by decide)) (sl.mono (show _ ≤ 400000 by decide))
  have s2 := rsub_fn (sh.mono (show _ ≤ 400000 by decide)) (sx.mono (show 2 ≤ 400000 by decide))
  obtain ⟨c3, h3, f3⟩ := rcmp_lt ((RS_sub sx sl).mono (show _ ≤ 400000 by decide)) (su.mono (show 129 ≤ 400000 by decide)) (show x - dn x B < hf B by have := dn_gt x B; grind)
  obtain ⟨c4, h4, f4⟩ := rcmp_lt ((RS_sub sh sx).mono (show _ ≤ 400000 by decide)) (su.mono (show 129 ≤ 400000 by decide)) (show up x B - x < hf B by have := up_lt x B; grind)
  clear sl sh su q1 q2 hne
  generalize x - dn x B = g1 at *
  generalize up x B - x = g2 at *
  generalize ((x * tw B).floor : Rat) = g3 at *
  generalize ((-((0 - x) * tw B).floor : Int) : Rat) = g4 at *
  generalize dn x B = g5 at *
  generalize up x B = g6 at *
  generalize hf B = g7 at *
  refine fn1N_of pl5 (by kernel_rfl) Tryz.call5 Tryz.func5 rfl (by kernel_rfl) rfl [.tmp 4] (by kernel_rfl) fun Q hQ => ?_
  repeat (first | (refine callV0 (awake28_fn) rfl rfl ?_) | (refine callV0 (fx) rfl rfl ?_) | (refine callV0 (fd) rfl rfl ?_) | (refine callV0 (fu) rfl rfl ?_) | (refine callV0 (hh) rfl rfl ?_) | (refine callV0 (v1) rfl rfl ?_) | (refine callV0 (v2) rfl rfl ?_) | (refine callV0 (w1) rfl rfl ?_) | (refine callV0 (w2) rfl rfl ?_) | (refine callV0 (f1) rfl rfl ?_) | (refine callV0 (f2) rfl rfl ?_) | (refine callV0 (s1) rfl rfl ?_) | (refine callV0 (s2) rfl rfl ?_) | (refine callV0 (f3) rfl rfl ?_) | (refine callV0 (f4) rfl rfl ?_) | (simp (maxSteps := 1000000) (disch := (first | omega | (simp only [lnA, List.length_map, List.length_range, true_and, and_true]; (try omega); done) | fail)) only [go_sem, hB, List.append_eq, List.cons_append, List.nil_append, Int.reduceEq, Int.reduceToNat, Nat.reduceAdd, Nat.reduceMul, Nat.reduceEqDiff, ↓reduceIte]))
  exact endW [] hQ
end Go.Proofs.YthoknpbjoeopcaaGreatDoor
