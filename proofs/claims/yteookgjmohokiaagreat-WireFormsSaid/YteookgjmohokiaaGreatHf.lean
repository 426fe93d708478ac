import Derived.Test.YteookgjmohokiaaGreatHd
/-! Law 17 and 18: small parameters, states that may be. -/
namespace Go.Proofs.YteookgjmohokiaaGreat
open Go.Eng Go.Vx
set_option linter.unusedSimpArgs false
set_option linter.unusedVariables false
set_option maxRecDepth 100000
def smN (k a b : Nat) : Prop := (k = 1 ∧ 1 ≤ a ∧ a ≤ 4 ∧ 1 ≤ b ∧ b ≤ 4) ∨ (k = 2 ∧ a ≤ 1 ∧ 1 ≤ b ∧ b ≤ 4) ∨ (k = 3 ∧ 1 ≤ a ∧ a ≤ 2 ∧ 1 ≤ b ∧ b ≤ 4) ∨ (k = 4 ∧ 1 ≤ a ∧ a ≤ 8 ∧ b ≤ 3)
theorem smN_good {k a b : Nat} (h : smN k a b) : goodN k a b := by
  rcases h with ⟨h, h1, h2, h3, h4⟩ | ⟨h, h1, h2, h3⟩ | ⟨h, h1, h2, h3, h4⟩ | ⟨h, h1, h2, h3⟩
  · refine .inl ⟨h, h1, by omega, h3, by omega, ?_⟩
    have hb := bl_le_of (n := a + 1) (k := 3) (by omega)
    have hp : 2 ^ b ≤ 2 ^ 4 := Nat.pow_le_pow_right (by decide) h4
    exact Nat.le_trans (Nat.mul_le_mul hb (show 2 ^ b - 1 ≤ 15 by omega)) (by decide)
  · exact .inr (.inl ⟨h, by omega, h2, by omega⟩)
  · exact .inr (.inr (.inl ⟨h, h1, by omega, h3, by omega⟩))
  · exact .inr (.inr (.inr ⟨h, h1, by omega, by omega⟩))
theorem smN_b {k a b : Nat} (h : smN k a b) : b ≤ 4 ∧ a ≤ 8 := by rcases h with h | h | h | h <;> omega
/-- A state that may be. -/
def wi (k a b : Nat) (s : Int × Int × Bool) : Nat × Nat × Bool :=
  if k = 4 then ((s.1 % 8).toNat % (a + 1), (s.2.1 % 4).toNat % (b + 1), s.2.2 && decide ((s.2.1 % 4).toNat % (b + 1) = b))
  else ((s.1 % 16).toNat % (2 ^ b - 1 + 1), 0, s.2.2 && decide ((s.1 % 16).toNat % (2 ^ b - 1 + 1) = 2 ^ b - 1))
theorem wi_well {k a b : Nat} {s : Int × Int × Bool} : wellN k a b (wi k a b s) := by
  unfold wellN wi
  by_cases h4 : k = 4
  · rw [if_pos h4, if_pos h4]
    exact ⟨Nat.le_of_lt_succ (Nat.mod_lt _ (Nat.succ_pos _)), Nat.le_of_lt_succ (Nat.mod_lt _ (Nat.succ_pos _)), fun h => by simp at h; exact h.2⟩
  · rw [if_neg h4, if_neg h4]
    exact ⟨rfl, Nat.le_of_lt_succ (Nat.mod_lt _ (Nat.succ_pos _)), fun h => by simp at h; exact h.2⟩
theorem natmod {m n : Nat} : ((m : Nat) : Int) % ((n : Int) + 1) = ((m % (n + 1) : Nat) : Int) := by
  rw [show (n : Int) + 1 = ((n + 1 : Nat) : Int) by omega]
  exact (Int.natCast_emod m (n + 1)).symm
set_option maxHeartbeats 1000000 in
theorem within_fn {k a b : Nat} {s : Int × Int × Bool} (ha : a ≤ 8) (hb : b ≤ 4) : Fn1 Tryz.prog 19 [pR k a b, .agg [.lit (.int .i64 s.1), .lit (.int .i64 s.2.1), .lit (.bool s.2.2)]] [] (sR (wi k a b s)) [] := by
  obtain ⟨K, T, F⟩ := s
  unfold wi
  dsimp only
  by_cases h4 : k = 4
  · rw [if_pos h4]
    obtain ⟨x, hx⟩ : ∃ x : Nat, K % 8 = (x : Int) := ⟨(K % 8).toNat, by omega⟩
    obtain ⟨y, hy⟩ : ∃ y : Nat, T % 4 = (y : Int) := ⟨(T % 4).toNat, by omega⟩
    rw [hx, hy, Int.toNat_natCast, Int.toNat_natCast]
    have f1 : ((x : Nat) : Int) % ((a : Int) + 1) = ((x % (a + 1) : Nat) : Int) := natmod
    have f2 : ((y : Nat) : Int) % ((b : Int) + 1) = ((y % (b + 1) : Nat) : Int) := natmod
    have hxl : x % (a + 1) < a + 1 := Nat.mod_lt _ (Nat.succ_pos _)
    have hyl : y % (b + 1) < b + 1 := Nat.mod_lt _ (Nat.succ_pos _)
    generalize x % (a + 1) = x' at *
    generalize y % (b + 1) = y' at *
    have hd : decide ((y' : Int) = (b : Int)) = decide (y' = b) := by rw [decide_eq_decide]; omega
    refine fn1N_of pl19 (by kernel_rfl) Tryz.call19 Tryz.func19 rfl (by kernel_rfl) rfl [.cell 4 27] (by kernel_rfl) fun Q hQ => ?_
    cases F with
    | true =>
      rw [Bool.true_and] at hQ
      simp (maxSteps := 1000000) (disch := (first | omega | (simp only [lnA, List.length_map, List.length_range, true_and, and_true]; (try omega); done) | fail)) only [go_sem, hx, hy, f1, f2, hd, and_self, and_true, Int.reduceEq, Int.reduceToNat, Nat.reduceAdd, Nat.reduceMul, Nat.reduceEqDiff, ↓reduceIte]
      exact endW [] hQ
    | false =>
      rw [Bool.false_and] at hQ
      simp (maxSteps := 1000000) (disch := (first | omega | (simp only [lnA, List.length_map, List.length_range, true_and, and_true]; (try omega); done) | fail)) only [go_sem, hx, hy, f1, f2, hd, and_self, and_true, Int.reduceEq, Int.reduceToNat, Nat.reduceAdd, Nat.reduceMul, Nat.reduceEqDiff, ↓reduceIte]
      exact endW [] hQ
  · rw [if_neg h4]
    obtain ⟨x, hx⟩ : ∃ x : Nat, K % 16 = (x : Int) := ⟨(K % 16).toNat, by omega⟩
    rw [hx, Int.toNat_natCast]
    have hs := shW (k := b) (by omega)
    have hp : 1 ≤ 2 ^ b := Nat.pow_pos (by decide)
    have hp2 : 2 ^ b ≤ 2 ^ 4 := Nat.pow_le_pow_right (by decide) hb
    obtain ⟨m, hm⟩ : ∃ m, 2 ^ b = m + 1 := ⟨2 ^ b - 1, by omega⟩
    rw [hm] at hs hp2
    rw [hm, Nat.add_sub_cancel]
    have he : (((m + 1 : Nat) : Int) - 1) = (m : Int) := by omega
    have f1 : ((x : Nat) : Int) % ((m : Int) + 1) = ((x % (m + 1) : Nat) : Int) := natmod
    have hxl : x % (m + 1) < m + 1 := Nat.mod_lt _ (Nat.succ_pos _)
    generalize x % (m + 1) = x' at *
    have hd : decide ((x' : Int) = (m : Int)) = decide (x' = m) := by rw [decide_eq_decide]; omega
    refine fn1N_of pl19 (by kernel_rfl) Tryz.call19 Tryz.func19 rfl (by kernel_rfl) rfl [.cell 4 27] (by kernel_rfl) fun Q hQ => ?_
    cases F with
    | true =>
      rw [Bool.true_and] at hQ
      simp (maxSteps := 1000000) (disch := (first | omega | (simp only [lnA, List.length_map, List.length_range, true_and, and_true]; (try omega); done) | fail)) only [go_sem, hs, Int.toNat_natCast, he, hx, f1, hd, Int.reduceEq, Int.reduceToNat, Nat.reduceAdd, Nat.reduceMul, Nat.reduceEqDiff, ↓reduceIte]
      exact endW [] hQ
    | false =>
      rw [Bool.false_and] at hQ
      simp (maxSteps := 1000000) (disch := (first | omega | (simp only [lnA, List.length_map, List.length_range, true_and, and_true]; (try omega); done) | fail)) only [go_sem, hs, Int.toNat_natCast, he, hx, f1, hd, Int.reduceEq, Int.reduceToNat, Nat.reduceAdd, Nat.reduceMul, Nat.reduceEqDiff, ↓reduceIte]
      exact endW [] hQ
set_option maxHeartbeats 1000000 in
theorem small17_fn {kk aa bb : Int} : ∃ k a b : Nat, smN k a b ∧ ∀ (s : Int × Int × Bool), Fn1 Tryz.prog 6 [.agg [.lit (.int .i64 kk), .lit (.int .i64 aa), .lit (.int .i64 bb)], .agg [.lit (.int .i64 s.1), .lit (.int .i64 s.2.1), .lit (.bool s.2.2)]] [] (.tup [pR k a b, sR (wi k a b s)]) [] := by
  have t1 : -4 < kk.tmod 4 := by have := Int.lt_tmod_of_pos kk (b := 4) (by decide); omega
  have t2 : kk.tmod 4 < 4 := Int.tmod_lt_of_pos kk (by decide)
  obtain ⟨m, hm, hm4⟩ : ∃ m : Nat, (kk.tmod 4 + 4) % 4 = (m : Int) ∧ m < 4 := ⟨((kk.tmod 4 + 4) % 4).toNat, by omega, by omega⟩
  obtain ⟨a3, ha3, ha3'⟩ : ∃ x : Nat, aa % 4 = (x : Int) ∧ x < 4 := ⟨(aa % 4).toNat, by omega, by omega⟩
  obtain ⟨a1, ha1, ha1'⟩ : ∃ x : Nat, aa % 2 = (x : Int) ∧ x < 2 := ⟨(aa % 2).toNat, by omega, by omega⟩
  obtain ⟨a7, ha7, ha7'⟩ : ∃ x : Nat, aa % 8 = (x : Int) ∧ x < 8 := ⟨(aa % 8).toNat, by omega, by omega⟩
  obtain ⟨bx, hbx, hbx'⟩ : ∃ x : Nat, bb % 256 % 4 = (x : Int) ∧ x < 4 := ⟨(bb % 256 % 4).toNat, by omega, by omega⟩
  obtain ⟨b3, hb3, hb3'⟩ : ∃ x : Nat, bb % 4 = (x : Int) ∧ x < 4 := ⟨(bb % 4).toNat, by omega, by omega⟩
  have e1 : ∀ x : Nat, 1 + (x : Int) = ((1 + x : Nat) : Int) := fun x => by omega
  rcases (show m = 0 ∨ m = 1 ∨ m = 2 ∨ m = 3 by omega) with rfl | rfl | rfl | rfl
  · refine ⟨1, 1 + a3, 1 + bx, .inl ⟨rfl, by omega, by omega, by omega, by omega⟩, fun s => ?_⟩
    have w := within_fn (k := 1) (a := 1 + a3) (b := 1 + bx) (s := s) (by omega) (by omega)
    generalize wi 1 (1 + a3) (1 + bx) s = r at *
    refine fn1N_of pl6 (by kernel_rfl) Tryz.call6 Tryz.func6 rfl (by kernel_rfl) rfl [.cell 4 23, .cell 5 27] (by kernel_rfl) fun Q hQ => ?_
    simp (maxSteps := 1000000) (disch := (first | omega | (simp only [lnA, List.length_map, List.length_range, true_and, and_true]; (try omega); done) | fail)) only [go_sem, hm, ha3, hbx, e1, Int.reduceEq, Int.reduceToNat, Nat.reduceAdd, Nat.reduceMul, Nat.reduceEqDiff, ↓reduceIte]
    refine callV0 (w) rfl rfl ?_
    simp (maxSteps := 1000000) (disch := (first | omega | (simp only [lnA, List.length_map, List.length_range, true_and, and_true]; (try omega); done) | fail)) only [go_sem, Int.reduceEq, Int.reduceToNat, Nat.reduceAdd, Nat.reduceMul, Nat.reduceEqDiff, ↓reduceIte]
    exact endW [] hQ
  · refine ⟨2, a1, 1 + bx, .inr (.inl ⟨rfl, by omega, by omega, by omega⟩), fun s => ?_⟩
    have w := within_fn (k := 2) (a := a1) (b := 1 + bx) (s := s) (by omega) (by omega)
    generalize wi 2 a1 (1 + bx) s = r at *
    refine fn1N_of pl6 (by kernel_rfl) Tryz.call6 Tryz.func6 rfl (by kernel_rfl) rfl [.cell 4 23, .cell 5 27] (by kernel_rfl) fun Q hQ => ?_
    simp (maxSteps := 1000000) (disch := (first | omega | (simp only [lnA, List.length_map, List.length_range, true_and, and_true]; (try omega); done) | fail)) only [go_sem, hm, ha1, hbx, e1, Int.reduceEq, Int.reduceToNat, Nat.reduceAdd, Nat.reduceMul, Nat.reduceEqDiff, ↓reduceIte]
    refine callV0 (w) rfl rfl ?_
    simp (maxSteps := 1000000) (disch := (first | omega | (simp only [lnA, List.length_map, List.length_range, true_and, and_true]; (try omega); done) | fail)) only [go_sem, Int.reduceEq, Int.reduceToNat, Nat.reduceAdd, Nat.reduceMul, Nat.reduceEqDiff, ↓reduceIte]
    exact endW [] hQ
  · refine ⟨3, 1 + a1, 1 + bx, .inr (.inr (.inl ⟨rfl, by omega, by omega, by omega, by omega⟩)), fun s => ?_⟩
    have w := within_fn (k := 3) (a := 1 + a1) (b := 1 + bx) (s := s) (by omega) (by omega)
    generalize wi 3 (1 + a1) (1 + bx) s = r at *
    refine fn1N_of pl6 (by kernel_rfl) Tryz.call6 Tryz.func6 rfl (by kernel_rfl) rfl [.cell 4 23, .cell 5 27] (by kernel_rfl) fun Q hQ => ?_
    simp (maxSteps := 1000000) (disch := (first | omega | (simp only [lnA, List.length_map, List.length_range, true_and, and_true]; (try omega); done) | fail)) only [go_sem, hm, ha1, hbx, e1, Int.reduceEq, Int.reduceToNat, Nat.reduceAdd, Nat.reduceMul, Nat.reduceEqDiff, ↓reduceIte]
    refine callV0 (w) rfl rfl ?_
    simp (maxSteps := 1000000) (disch := (first | omega | (simp only [lnA, List.length_map, List.length_range, true_and, and_true]; (try omega); done) | fail)) only [go_sem, Int.reduceEq, Int.reduceToNat, Nat.reduceAdd, Nat.reduceMul, Nat.reduceEqDiff, ↓reduceIte]
    exact endW [] hQ
  · refine ⟨4, 1 + a7, b3, .inr (.inr (.inr ⟨rfl, by omega, by omega, by omega⟩)), fun s => ?_⟩
    have w := within_fn (k := 4) (a := 1 + a7) (b := b3) (s := s) (by omega) (by omega)
    generalize wi 4 (1 + a7) b3 s = r at *
    refine fn1N_of pl6 (by kernel_rfl) Tryz.call6 Tryz.func6 rfl (by kernel_rfl) rfl [.cell 4 23, .cell 5 27] (by kernel_rfl) fun Q hQ => ?_
    simp (maxSteps := 1000000) (disch := (first | omega | (simp only [lnA, List.length_map, List.length_range, true_and, and_true]; (try omega); done) | fail)) only [go_sem, hm, ha7, hb3, e1, Int.reduceEq, Int.reduceToNat, Nat.reduceAdd, Nat.reduceMul, Nat.reduceEqDiff, ↓reduceIte]
    refine callV0 (w) rfl rfl ?_
    simp (maxSteps := 1000000) (disch := (first | omega | (simp only [lnA, List.length_map, List.length_range, true_and, and_true]; (try omega); done) | fail)) only [go_sem, Int.reduceEq, Int.reduceToNat, Nat.reduceAdd, Nat.reduceMul, Nat.reduceEqDiff, ↓reduceIte]
    exact endW [] hQ
theorem own17_fn {k a b : Nat} : Fn1 Tryz.prog 13 [pR k a b] [] (pR k a b) [] := by
  refine fn1N_of pl13 (by kernel_rfl) Tryz.call13 Tryz.func13 rfl (by kernel_rfl) rfl [.cell 2 43] (by kernel_rfl) fun Q hQ => ?_
  simp (maxSteps := 1000000) (disch := (first | omega | (simp only [lnA, List.length_map, List.length_range, true_and, and_true]; (try omega); done) | fail)) only [go_sem, Int.reduceEq, Int.reduceToNat, Nat.reduceAdd, Nat.reduceMul, Nat.reduceEqDiff, ↓reduceIte]
  exact endW [] hQ
theorem state17_fn {s : Nat × Nat × Bool} : Fn1 Tryz.prog 14 [sR s] [] (sR s) [] := by
  refine fn1N_of pl14 (by kernel_rfl) Tryz.call14 Tryz.func14 rfl (by kernel_rfl) rfl [.cell 2 45] (by kernel_rfl) fun Q hQ => ?_
  simp (maxSteps := 1000000) (disch := (first | omega | (simp only [lnA, List.length_map, List.length_range, true_and, and_true]; (try omega); done) | fail)) only [go_sem, Int.reduceEq, Int.reduceToNat, Nat.reduceAdd, Nat.reduceMul, Nat.reduceEqDiff, ↓reduceIte]
  exact endW [] hQ
end Go.Proofs.YteookgjmohokiaaGreat
