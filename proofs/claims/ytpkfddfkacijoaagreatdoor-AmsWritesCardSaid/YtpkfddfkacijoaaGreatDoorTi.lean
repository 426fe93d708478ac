import Derived.Test.YtpkfddfkacijoaaGreatDoorTb
namespace Go.Proofs.YtpkfddfkacijoaaGreatDoor
open Go.Eng Go.Vx
set_option linter.unusedSimpArgs false
set_option linter.unusedVariables false
set_option maxRecDepth 100000
theorem bl_step {m : Nat} (h : 0 < m) : bl m = bl (m / 2) + 1 := by
  by_cases h1 : 2 ≤ m
  · exact bl_half h1
  · obtain rfl : m = 1 := by omega
    decide
theorem belowR_end {L : List Bool} {n w : Nat} : ∀ f q, q ≤ L.length → q ≤ (belowR L n w f q).2.2.1 ∧ (belowR L n w f q).2.2.1 ≤ L.length
  | 0, q, h => ⟨h, Nat.le_refl _⟩
  | f + 1, q, h => by
    unfold belowR
    split
    · split
      · exact ⟨Nat.le_add_right _ _, by assumption⟩
      · obtain ⟨h1, h2⟩ := belowR_end (n := n) (w := w) f (q + w) (by assumption)
        exact ⟨by omega, h2⟩
    · exact ⟨h, Nat.le_refl _⟩
theorem belowX_end {L : List Bool} {n p : Nat} (h : p ≤ L.length) : p ≤ (belowX L n p).2.2.1 ∧ (belowX L n p).2.2.1 ≤ L.length := belowR_end _ _ h
theorem belowX_cases {L : List Bool} {n p : Nat} (hn : 0 < n) : belowX L n p = (0, 8, L.length, true) ∨ ∃ x q, x < n ∧ belowX L n p = (x, 0, q, false) := by
  unfold belowX
  generalize bl (n - 1) = w
  generalize L.length + 1 - p = f
  induction f generalizing p with
  | zero => exact .inl rfl
  | succ f ih =>
    unfold belowR
    split
    · split
      · rename_i h; exact .inr ⟨_, _, h, rfl⟩
      · exact ih
    · exact .inl rfl
def outV (N took : Nat) (e : Int) : V := .agg [.lit (.int .u64 (N : Int)), .lit (.int .i64 (took : Int)), .lit (.int .i64 e)]
attribute [go_sem] outV
theorem refBelow_fn {L : List Bool} {n p : Nat} (hL : L.length ≤ 1048576) (hp : p ≤ L.length) (hn : 0 < n) (hn2 : n < 18446744073709551616) : Fn1 Tryz.prog 88 [.row 1 (L.map be), .lit (.int .i64 (p : Int)), .lit (.int .u64 (n : Int))] []
    (outV (belowX L n p).1 ((belowX L n p).2.2.1 - p) (belowX L n p).2.1) [] := by
  refine fn1N_of pl88 (by kernel_rfl) Tryz.call88 Tryz.func88 rfl (by kernel_rfl) rfl [.cell 6 156] (by kernel_rfl) fun Q hQ => ?_
  have hn1 : (n : Int) - 1 = ((n - 1 : Nat) : Int) := by omega
  have hw64 := bl_le_of (n := n - 1) (k := 64) (by omega)
  unfold belowX at hQ
  simp (maxSteps := 1000000) (disch := (first | omega | (simp only [lnA, List.length_map, List.length_range, true_and, and_true]; (try omega); done) | fail)) only [go_sem, hn1, Int.reduceEq, Int.reduceToNat, Nat.reduceAdd, Nat.reduceMul, Nat.reduceEqDiff, ↓reduceIte]
  refine loopW (X := Nat × Nat) (st := fun x => ([(0, .row 1 (L.map be)), (1, .lit (.int .i64 (p : Int))), (2, .lit (.int .u64 (n : Int))), (6, .ref 0 0 0 0), (7, .lit (.int .i64 (x.1 : Int))), (8, .lit (.int .u64 (x.2 : Int)))], [some (.cells [.lit (.int .u64 0), .lit (.int .i64 0), .lit (.int .i64 0)])]))
    (inv := fun x => x.1 + bl x.2 = bl (n - 1) ∧ x.2 ≤ n - 1) (m := fun x => x.2) (0, n - 1) [some 0] ⟨by simp, Nat.le_refl _⟩ ?_
  rintro ⟨k, m⟩ ⟨hk, hm⟩
  dsimp only at hk hm ⊢
  by_cases hm0 : 0 < m
  · have hs := bl_step hm0
    refine runW ?_
    refine nextW (k + 1, m / 2) [some 0] ⟨by simp only; omega, by simp only; omega⟩ (by simp only; omega)
  · obtain rfl : m = 0 := by omega
    rw [bl_zero] at hk
    have hwd : k = bl (n - 1) := by omega
    have hnw := bl_lt (n - 1)
    rw [← hwd] at hQ hw64 hnw
    clear hwd hk
    refine runW ?_
    refine loopW (X := Nat) (st := fun t => ([(0, .row 1 (L.map be)), (1, .lit (.int .i64 (p : Int))), (2, .lit (.int .u64 (n : Int))), (6, .ref 0 0 0 0), (7, .lit (.int .i64 (k : Int))), (9, .lit (.int .i64 (t : Int)))], [some (.cells [.lit (.int .u64 0), .lit (.int .i64 0), .lit (.int .i64 0)])]))
      (inv := fun t => p + t ≤ L.length ∧ belowR L n k (L.length + 1 - p) p = belowR L n k (L.length + 1 - (p + t)) (p + t)) (m := fun t => L.length - (p + t)) 0 [some 0] ⟨by omega, rfl⟩ ?_
    rintro t ⟨ht, hv⟩
    obtain ⟨f, hf⟩ : ∃ f, L.length + 1 - (p + t) = f + 1 := ⟨L.length - (p + t), by omega⟩
    rw [hf] at hv
    rw [hv] at hQ
    refine runW ?_
    refine LoopV_of (X := Nat) (st := fun i => ([(0, .row 1 (L.map be)), (1, .lit (.int .i64 (p : Int))), (2, .lit (.int .u64 (n : Int))), (6, .ref 0 0 0 0), (7, .lit (.int .i64 (k : Int))), (9, .lit (.int .i64 ((t + i : Nat) : Int))), (10, .lit (.int .u64 ((numOf ((L.drop (p + t)).take i) : Nat) : Int))), (11, .lit (.int .i64 (i : Int)))], [some (.cells [.lit (.int .u64 0), .lit (.int .i64 0), .lit (.int .i64 0)])]))
      (inv := fun i => i ≤ k ∧ p + t + i ≤ L.length) (m := fun i => k - i) 0 [some 0] rfl (by simp (disch := (first | omega | (simp only [lnA, List.length_map, List.length_range, true_and, and_true]; (try omega); done) | fail)) only [go_sem, Int.reduceEq, Int.reduceToNat, Nat.reduceAdd, Nat.reduceMul, Nat.reduceEqDiff, ↓reduceIte, true_and, and_true, and_self, List.drop_zero, List.take_length, Nat.le_refl, V.lit.injEq, Value.int.injEq, Value.bool.injEq]; try (first | omega | (simp; done) | (simp; omega))) (by simp only [List.take_zero, numOf_nil]; (simp (disch := (first | omega | (simp only [lnA, List.length_map, List.length_range, true_and, and_true]; (try omega); done) | fail)) only [go_sem, Int.reduceEq, Int.reduceToNat, Nat.reduceAdd, Nat.reduceMul, Nat.reduceEqDiff, ↓reduceIte, true_and, and_true, and_self, List.drop_zero, List.take_length, Nat.le_refl, V.lit.injEq, Value.int.injEq, Value.bool.injEq]; try (first | omega | (simp; done) | (simp; omega)))) ⟨by omega, by omega⟩ ?_
    rintro i ⟨hi, hqi⟩
    by_cases hik : i < k
    · by_cases hin : p + t + i < L.length
      · have hts := take_snoc (l := L) (a := p + t) (w := i) hin
        have hns := numOf_snoc ((L.drop (p + t)).take i) (L.getD (p + t + i) false)
        rw [← hts] at hns
        have hnl := numOf_lt ((L.drop (p + t)).take i)
        have hln : ((L.drop (p + t)).take i).length = i := by simp; omega
        rw [hln] at hnl
        have hp2 : 2 ^ i ≤ 2 ^ 63 := Nat.pow_le_pow_right (by decide) (by omega)
        have hxl : numOf ((L.drop (p + t)).take i) < 9223372036854775808 := by omega
        have hpt : ((p : Int) + ((t + i : Nat) : Int)) = ((p + t + i : Nat) : Int) := by omega
        generalize numOf ((L.drop (p + t)).take i) = x at *
        cases hbit : L.getD (p + t + i) false with
        | true =>
          rw [hbit] at hns
          simp only [Bool.toNat_true] at hns
          simp (maxSteps := 1000000) (disch := (first | omega | (simp only [lnA, List.length_map, List.length_range, true_and, and_true]; (try omega); done) | fail)) only [go_sem, hpt, hbit, Int.reduceEq, Int.reduceToNat, Nat.reduceAdd, Nat.reduceMul, Nat.reduceEqDiff, ↓reduceIte]
          refine NextV_of (i + 1) [some 0] rfl (by simp (disch := (first | omega | (simp only [lnA, List.length_map, List.length_range, true_and, and_true]; (try omega); done) | fail)) only [go_sem, Int.reduceEq, Int.reduceToNat, Nat.reduceAdd, Nat.reduceMul, Nat.reduceEqDiff, ↓reduceIte, true_and, and_true, and_self, List.drop_zero, List.take_length, Nat.le_refl, V.lit.injEq, Value.int.injEq, Value.bool.injEq]; try (first | omega | (simp; done) | (simp; omega))) (by dsimp only; rw [hns]; (simp (disch := (first | omega | (simp only [lnA, List.length_map, List.length_range, true_and, and_true]; (try omega); done) | fail)) only [go_sem, Int.reduceEq, Int.reduceToNat, Nat.reduceAdd, Nat.reduceMul, Nat.reduceEqDiff, ↓reduceIte, true_and, and_true, and_self, List.drop_zero, List.take_length, Nat.le_refl, V.lit.injEq, Value.int.injEq, Value.bool.injEq]; try (first | omega | (simp; done) | (simp; omega)))) ⟨by omega, by omega⟩ (by omega)
        | false =>
          rw [hbit] at hns
          simp only [Bool.toNat_false, Nat.add_zero] at hns
          simp (maxSteps := 1000000) (disch := (first | omega | (simp only [lnA, List.length_map, List.length_range, true_and, and_true]; (try omega); done) | fail)) only [go_sem, hpt, hbit, Int.reduceEq, Int.reduceToNat, Nat.reduceAdd, Nat.reduceMul, Nat.reduceEqDiff, ↓reduceIte]
          refine NextV_of (i + 1) [some 0] rfl (by simp (disch := (first | omega | (simp only [lnA, List.length_map, List.length_range, true_and, and_true]; (try omega); done) | fail)) only [go_sem, Int.reduceEq, Int.reduceToNat, Nat.reduceAdd, Nat.reduceMul, Nat.reduceEqDiff, ↓reduceIte, true_and, and_true, and_self, List.drop_zero, List.take_length, Nat.le_refl, V.lit.injEq, Value.int.injEq, Value.bool.injEq]; try (first | omega | (simp; done) | (simp; omega))) (by dsimp only; rw [hns]; (simp (disch := (first | omega | (simp only [lnA, List.length_map, List.length_range, true_and, and_true]; (try omega); done) | fail)) only [go_sem, Int.reduceEq, Int.reduceToNat, Nat.reduceAdd, Nat.reduceMul, Nat.reduceEqDiff, ↓reduceIte, true_and, and_true, and_self, List.drop_zero, List.take_length, Nat.le_refl, V.lit.injEq, Value.int.injEq, Value.bool.injEq]; try (first | omega | (simp; done) | (simp; omega)))) ⟨by omega, by omega⟩ (by omega)
      · have hqe : p + t + i = L.length := by omega
        rw [show belowR L n k (f + 1) (p + t) = (0, 8, L.length, true) by unfold belowR; rw [if_neg (by omega)]] at hQ
        have htk : L.length - p = t + i := by omega
        have hpt : ((p : Int) + ((t + i : Nat) : Int)) = (L.length : Int) := by omega
        dsimp only at hQ
        rw [htk] at hQ
        simp (maxSteps := 1000000) (disch := (first | omega | (simp only [lnA, List.length_map, List.length_range, true_and, and_true]; (try omega); done) | fail)) only [go_sem, hpt, Int.reduceEq, Int.reduceToNat, Nat.reduceAdd, Nat.reduceMul, Nat.reduceEqDiff, ↓reduceIte]
        exact endW [] hQ
    · obtain rfl : i = k := by omega
      have hb : belowR L n i (f + 1) (p + t) = if numOf ((L.drop (p + t)).take i) < n then (numOf ((L.drop (p + t)).take i), 0, p + t + i, false) else belowR L n i f (p + t + i) := by
        conv => lhs; unfold belowR
        rw [if_pos hqi]
      have hnl := numOf_lt ((L.drop (p + t)).take i)
      have hln : ((L.drop (p + t)).take i).length = i := by simp; omega
      rw [hln] at hnl
      by_cases hx : numOf ((L.drop (p + t)).take i) < n
      · rw [hb, if_pos hx] at hQ
        dsimp only at hQ
        rw [show p + t + i - p = t + i by omega] at hQ
        refine runW ?_
        exact endW [] hQ
      · rw [if_neg hx] at hb
        have hi0 : 0 < i := by
          rcases Nat.eq_zero_or_pos i with h | h
          · subst h
            rw [Nat.pow_zero] at hnl
            omega
          · exact h
        refine runW ?_
        refine nextW (t + i) [some 0] ⟨by omega, ?_⟩ (by omega)
        rw [hv, hb]
        have := belowR_fuel (L := L) (n := n) hi0 f (p + t + i) (by omega)
        rw [← Nat.add_assoc]
        exact this
end Go.Proofs.YtpkfddfkacijoaaGreatDoor
