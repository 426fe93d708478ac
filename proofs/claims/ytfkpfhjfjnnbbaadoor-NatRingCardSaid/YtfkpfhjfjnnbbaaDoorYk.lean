import Derived.Test.YtfkpfhjfjnnbbaaDoorYl
/-! NatRing. -/
namespace Go.Proofs.YtfkpfhjfjnnbbaaDoor
open Go.Eng Go.Vx
set_option linter.unusedSimpArgs false
set_option linter.unusedVariables false
set_option maxRecDepth 100000
theorem same5_fn {a b : Nat} {p : Bool} (ha : (wg a).length ≤ 4000000) (hb : (wg b).length ≤ 4000000) (hp : decide (a = b) = p) : Fn1 Tryd.prog 35 [NV a, NV b] [] (.lit (.bool p)) [] := by
  have e : decide (cmpI a b = 0) = p := by rw [← hp]; congr 1; unfold cmpI; refine propext ?_; split <;> (try split) <;> omega
  refine fn1N_of pl35 (by kernel_rfl) Tryd.call35 Tryd.func35 rfl (by kernel_rfl) rfl [.tmp 4] (by kernel_rfl) fun Q hQ => ?_
  simp (maxSteps := 1000000) (disch := (first | omega | (simp only [lnA, List.length_map, List.length_range, true_and, and_true]; (try omega); done) | fail)) only [go_sem, Int.reduceEq, Int.reduceToNat, Nat.reduceAdd, Nat.reduceMul, Nat.reduceEqDiff, ↓reduceIte]
  refine callV0 (ncmp_fn (a := a) (b := b) ha hb) rfl rfl ?_
  simp (maxSteps := 1000000) (disch := (first | omega | (simp only [lnA, List.length_map, List.length_range, true_and, and_true]; (try omega); done) | fail)) only [go_sem, e, Int.reduceEq, Int.reduceToNat, Nat.reduceAdd, Nat.reduceMul, Nat.reduceEqDiff, ↓reduceIte]
  exact endW [] hQ
set_option maxHeartbeats 4000000 in
theorem natRing_fn {P0 Q0 R0 : List Nat} (hP0 : ∀ d ∈ P0, d < 18446744073709551616) (hQ0 : ∀ d ∈ Q0, d < 18446744073709551616) (hR0 : ∀ d ∈ R0, d < 18446744073709551616) (lP : P0.length ≤ 9223372036854775807) (lQ : Q0.length ≤ 9223372036854775807) (lR : R0.length ≤ 9223372036854775807) :
    Fn1 Tryd.prog 7 [.row 1 ((nl P0).map (ie .u64)), .row 1 ((nl Q0).map (ie .u64)), .row 1 ((nl R0).map (ie .u64))] [] (.lit (.bool true)) [] := by
  obtain ⟨fp, hP, hPl⟩ := few_of (k := 5) hP0 lP (by decide)
  obtain ⟨fq, hQ', hQl⟩ := few_of (k := 5) hQ0 lQ (by decide)
  obtain ⟨fr, hR, hRl⟩ := few_of (k := 5) hR0 lR (by decide)
  generalize P0.take 5 = W1 at *
  generalize Q0.take 5 = W2 at *
  generalize R0.take 5 = W3 at *
  have oa := of_fn (l := W1) hP (by omega)
  have ob := of_fn (l := W2) hQ' (by omega)
  have oc := of_fn (l := W3) hR (by omega)
  have la := val_len hP hPl
  have lb := val_len hQ' hQl
  have lc := val_len hR hRl
  have bla := val_bl hP hPl
  have blb := val_bl hQ' hQl
  generalize valB 18446744073709551616 W1 = a at *
  generalize valB 18446744073709551616 W2 = b at *
  generalize valB 18446744073709551616 W3 = c at *
  have lab : (wg (a + b)).length ≤ 6 := dgB_len_add (B := 18446744073709551616) (by decide) la lb
  have lm := fun (x y : Nat) => dgB_len_mul (B := 18446744073709551616) (by decide) x y
  have m1 : (wg (a * b)).length ≤ 10 := Nat.le_trans (lm _ _) (Nat.add_le_add la lb)
  have m2 : (wg (b * a)).length ≤ 10 := Nat.le_trans (lm _ _) (Nat.add_le_add lb la)
  have m3 : (wg ((a + b) * c)).length ≤ 11 := Nat.le_trans (lm _ _) (Nat.add_le_add lab lc)
  have m4 : (wg (a * c)).length ≤ 10 := Nat.le_trans (lm _ _) (Nat.add_le_add la lc)
  have m5 : (wg (b * c)).length ≤ 10 := Nat.le_trans (lm _ _) (Nat.add_le_add lb lc)
  have m6 : (wg (a * c + b * c)).length ≤ 11 := dgB_len_add (B := 18446744073709551616) (by decide) m4 m5
  have m7 : (wg (a * b * c)).length ≤ 15 := Nat.le_trans (lm _ _) (Nat.add_le_add m1 lc)
  have m8 : (wg (a * (b * c))).length ≤ 15 := Nat.le_trans (lm _ _) (Nat.add_le_add la m5)
  have lba : (wg (b + a)).length ≤ 6 := dgB_len_add (B := 18446744073709551616) (by decide) lb la
  have c1 := nadd_fn (a := a) (b := b) (by omega) (by omega)
  have c2 := nsub_fn (a := a + b) (b := b) (by omega) (by omega)
  rw [Nat.add_sub_cancel] at c2
  have s1 := same5_fn (a := a) (b := a) (p := true) (by omega) (by omega) (decide_eq_true rfl)
  have c3 := nadd_fn (a := b) (b := a) (by omega) (by omega)
  have s2 := same5_fn (a := a + b) (b := b + a) (p := true) (by omega) (by omega) (decide_eq_true (Nat.add_comm a b))
  have c4 := nmul_fn (a := a) (b := b) (by omega) (by omega)
  have c5 := nmul_fn (a := b) (b := a) (by omega) (by omega)
  have s3 := same5_fn (a := a * b) (b := b * a) (p := true) (by omega) (by omega) (decide_eq_true (Nat.mul_comm a b))
  have c6 := nmul_fn (a := a + b) (b := c) (by omega) (by omega)
  have c7 := nmul_fn (a := a) (b := c) (by omega) (by omega)
  have c8 := nmul_fn (a := b) (b := c) (by omega) (by omega)
  have c9 := nadd_fn (a := a * c) (b := b * c) (by omega) (by omega)
  have s4 := same5_fn (a := (a + b) * c) (b := a * c + b * c) (p := true) (by omega) (by omega) (decide_eq_true (Nat.add_mul a b c))
  have c10 := nmul_fn (a := a * b) (b := c) (by omega) (by omega)
  have c11 := nmul_fn (a := a) (b := b * c) (by omega) (by omega)
  have s5 := same5_fn (a := a * b * c) (b := a * (b * c)) (p := true) (by omega) (by omega) (decide_eq_true (Nat.mul_assoc a b c))
  have b1 := bits_fn (n := a + b) (by omega)
  have b2 := bits_fn (n := a) (by omega)
  have b3 := bits_fn (n := b) (by omega)
  have g1 := bl_mono (show a ≤ a + b by omega)
  have g2 := bl_mono (show b ≤ a + b by omega)
  have g3 := bl_add_le a b
  refine fn1N_of pl7 (by kernel_rfl) Tryd.call7 Tryd.func7 rfl (by kernel_rfl) rfl [.tmp 6] (by kernel_rfl) fun Q hQ => ?_
  generalize bl (a + b) = ts at *
  generalize bl a = ta at *
  generalize bl b = tb at *
  generalize a * b * c = v7 at *
  generalize a * (b * c) = v8 at *
  generalize a * c + b * c = v6 at *
  generalize (a + b) * c = v3 at *
  generalize a * c = v4 at *
  generalize b * c = v5 at *
  generalize a * b = v1 at *
  generalize b * a = v2 at *
  generalize b + a = v9 at *
  generalize a + b = v0 at *
  repeat (first | (refine callV0 (awake5_fn) rfl rfl ?_) | (refine callV0 (fp) rfl rfl ?_) | (refine callV0 (fq) rfl rfl ?_) | (refine callV0 (fr) rfl rfl ?_) | (refine callV0 (oa) rfl rfl ?_) | (refine callV0 (ob) rfl rfl ?_) | (refine callV0 (oc) rfl rfl ?_) | (refine callV0 (c1) rfl rfl ?_) | (refine callV0 (c2) rfl rfl ?_) | (refine callV0 (s1) rfl rfl ?_) | (refine callV0 (c3) rfl rfl ?_) | (refine callV0 (s2) rfl rfl ?_) | (refine callV0 (c4) rfl rfl ?_) | (refine callV0 (c5) rfl rfl ?_) | (refine callV0 (s3) rfl rfl ?_) | (refine callV0 (c6) rfl rfl ?_) | (refine callV0 (c7) rfl rfl ?_) | (refine callV0 (c8) rfl rfl ?_) | (refine callV0 (c9) rfl rfl ?_) | (refine callV0 (s4) rfl rfl ?_) | (refine callV0 (c10) rfl rfl ?_) | (refine callV0 (c11) rfl rfl ?_) | (refine callV0 (s5) rfl rfl ?_) | (refine callV0 (b1) rfl rfl ?_) | (refine callV0 (b2) rfl rfl ?_) | (refine callV0 (b3) rfl rfl ?_) | (simp (maxSteps := 1000000) (disch := (first | omega | (simp only [lnA, List.length_map, List.length_range, true_and, and_true]; (try omega); done) | fail)) only [go_sem, eq_self, decide_true, List.append_eq, List.cons_append, List.nil_append, Int.reduceEq, Int.reduceToNat, Nat.reduceAdd, Nat.reduceMul, Nat.reduceEqDiff, ↓reduceIte]))
  exact endW [] hQ
end Go.Proofs.YtfkpfhjfjnnbbaaDoor
