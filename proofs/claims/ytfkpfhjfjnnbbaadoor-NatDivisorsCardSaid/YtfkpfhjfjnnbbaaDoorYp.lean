import Derived.Test.YtfkpfhjfjnnbbaaDoorYo
import Derived.Test.YtfkpfhjfjnnbbaaDoorD3
/-! NatDivisors. -/
namespace Go.Proofs.YtfkpfhjfjnnbbaaDoor
open Go.Eng Go.Vx
set_option linter.unusedSimpArgs false
set_option linter.unusedVariables false
set_option maxRecDepth 100000
set_option maxHeartbeats 4000000 in
theorem natDivisors_fn {P0 Q0 R0 : List Nat} (hP0 : ∀ d ∈ P0, d < 18446744073709551616) (hQ0 : ∀ d ∈ Q0, d < 18446744073709551616) (hR0 : ∀ d ∈ R0, d < 18446744073709551616) (lP : P0.length ≤ 9223372036854775807) (lQ : Q0.length ≤ 9223372036854775807) (lR : R0.length ≤ 9223372036854775807) :
    Fn1 Tryd.prog 4 [.row 1 ((nl P0).map (ie .u64)), .row 1 ((nl Q0).map (ie .u64)), .row 1 ((nl R0).map (ie .u64))] [] (.lit (.bool true)) [] := by
  obtain ⟨fp, hP, hPl⟩ := few_of (k := 3) hP0 lP (by decide)
  obtain ⟨fq, hQ', hQl⟩ := few_of (k := 3) hQ0 lQ (by decide)
  obtain ⟨fr, hR, hRl⟩ := few_of (k := 2) hR0 lR (by decide)
  generalize P0.take 3 = W1 at *
  generalize Q0.take 3 = W2 at *
  generalize R0.take 2 = W3 at *
  obtain ⟨a, oa, va, la, da, -⟩ := both_of hP hPl (by decide)
  obtain ⟨b, ob, vb, lb, db, -⟩ := both_of hQ' hQl (by decide)
  obtain ⟨c, oc, vc, lc, dc, -⟩ := both_of hR hRl (by decide)
  have lac := wmul_len a c
  have lbc := wmul_len b c
  have m1 := nmul_fn (a := a) (b := c) (by omega) (by omega)
  have m2 := nmul_fn (a := b) (b := c) (by omega) (by omega)
  have g1 := ngcd_fn (a := a * c) (b := b * c) (by omega) (by omega)
  have g2 := ngcd_fn (a := b * c) (b := a * c) (by omega) (by omega)
  have r1 := lgcd_fn (a := a) (b := b) (by omega) (by omega)
  have hgl : Nat.gcd a b ≤ a ∨ Nat.gcd a b ≤ b := by
    rcases Nat.eq_zero_or_pos a with rfl | h
    · exact .inr (by rw [Nat.gcd_zero_left]; exact Nat.le_refl _)
    · exact .inl (Nat.le_of_dvd h (Nat.gcd_dvd_left a b))
  have hdl : (dg (Nat.gcd a b)).length ≤ 15 := by
    rcases hgl with h | h
    · exact Nat.le_trans (dg_mono h) da
    · exact Nat.le_trans (dg_mono h) db
  have hwl : (wg (Nat.gcd a b)).length ≤ 3 := by
    rcases hgl with h | h
    · exact Nat.le_trans (wmono_len h) la
    · exact Nat.le_trans (wmono_len h) lb
  have e1 : Nat.gcd (a * c) (b * c) = Nat.gcd a b * c := Nat.gcd_mul_right a c b
  have e2 : Nat.gcd (b * c) (a * c) = Nat.gcd a b * c := by rw [Nat.gcd_comm]; exact e1
  rw [e1] at g1
  rw [e2] at g2
  clear e1 e2 hgl
  obtain ⟨g, hg⟩ : ∃ g, Nat.gcd a b = g := ⟨_, rfl⟩
  rw [hg] at g1 g2 r1 hdl hwl
  have lgc := wmul_len g c
  have dgc := dg_mul g c
  have r2 := lmul_fn (a := g) (b := c) (by omega) (by omega)
  have i1 := is5_fn (n := g * c) (by omega) (by omega)
  have c1 := ncmp_fn (a := g * c) (b := g * c) (by omega) (by omega)
  rw [cmpI_eq] at c1
  refine fn1_of pl4 (by kernel_rfl) Tryd.call4 Tryd.func4 rfl (by kernel_rfl) rfl [.tmp 6] (by kernel_rfl) fun Q hQ => ?_
  repeat (first | (refine callV0 (awake5_fn) rfl rfl ?_) | (refine callV0 (fp) rfl rfl ?_) | (refine callV0 (fq) rfl rfl ?_) | (refine callV0 (fr) rfl rfl ?_) | (refine callV0 (oa) rfl rfl ?_) | (refine callV0 (ob) rfl rfl ?_) | (refine callV0 (oc) rfl rfl ?_) | (refine callV0 (va) rfl rfl ?_) | (refine callV0 (vb) rfl rfl ?_) | (refine callV0 (vc) rfl rfl ?_) | (refine callV0 (m1) rfl rfl ?_) | (refine callV0 (m2) rfl rfl ?_) | (refine callV0 (g1) rfl rfl ?_) | (refine callV0 (g2) rfl rfl ?_) | (refine callV0 (r1) rfl rfl ?_) | (refine callV0 (r2) rfl rfl ?_) | (refine callV0 (i1) rfl rfl ?_) | (refine callV0 (c1) rfl rfl ?_) | (simp (maxSteps := 1000000) (disch := (first | omega | (simp only [lnA, List.length_map, List.length_range, true_and, and_true]; (try omega); done) | fail)) only [go_sem, eq_self, decide_true, decide_false, List.append_eq, List.cons_append, List.nil_append, Int.reduceEq, Int.reduceToNat, Nat.reduceAdd, Nat.reduceMul, Nat.reduceEqDiff, ↓reduceIte]))
  exact endW [] hQ
end Go.Proofs.YtfkpfhjfjnnbbaaDoor
