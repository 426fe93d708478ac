import Derived.Test.YtdmdmdoeahhkiaaGreatDoorYh
import Derived.Test.YtdmdmdoeahhkiaaGreatDoorRc
namespace Go.Proofs.YtdmdmdoeahhkiaaGreatDoor
open Go.Eng Go.Vx
set_option linter.unusedSimpArgs false
set_option linter.unusedVariables false
set_option maxRecDepth 100000
theorem dg_at (n i : Nat) (h : i < (dg n).length) : (dg n).getD i 0 = n / 10000 ^ i % 10000 := by
  have h1 := wg_fw (B := 10000) (n := n) (by decide)
  have h2 := fw_getD (B := 10000) (k := (dg n).length) (i := i) n h
  unfold dg at *
  rw [h1] at h2
  exact h2
theorem dg_top {n : Nat} (h : n ≠ 0) : 0 < (dg n).length ∧ n / 10000 ^ ((dg n).length - 1) ≠ 0 ∧ n / 10000 ^ ((dg n).length - 1) < 10000 := by
  have h0 : 0 < (dg n).length := by
    rcases Nat.eq_zero_or_pos (dg n).length with e | e
    · exact absurd ((dgB_nil (B := 10000) (by decide)).1 (List.length_eq_zero_iff.1 e)) h
    · exact e
  have h1 : n < 10000 ^ (dg n).length := dgB_lt_pow (B := 10000) (by decide) n
  have hp : 0 < 10000 ^ ((dg n).length - 1) := Nat.pow_pos (by decide)
  refine ⟨h0, fun e => ?_, ?_⟩
  · have h2 := (Nat.div_eq_zero_iff_lt hp).1 e
    have h3 := (dgB_len_le (B := 10000) (n := n) (k := (dg n).length - 1) (by decide)).2 h2
    unfold dg at *
    omega
  · rw [Nat.div_lt_iff_lt_mul hp, Nat.mul_comm, ← Nat.pow_succ, show ((dg n).length - 1).succ = (dg n).length by omega]
    exact h1
theorem rtext_fn {n : Nat} (hn : (dg n).length ≤ 100000) : Fn1 Tryz.prog 25 [DV n] [] (.lit (.string (bs (decS n)))) [] := by
  refine fn1N_of pl25 (by kernel_rfl) Tryz.call25 Tryz.func25 rfl (by kernel_rfl) rfl [.tmp 2] (by kernel_rfl) fun Q hQ => ?_
  have hnl := nl_len (dg n)
  by_cases h0 : n = 0
  · subst h0
    rw [decS_small (by decide)] at hQ
    have hz : dg 0 = [] := dgB_zero _
    simp (maxSteps := 1000000) (disch := (first | omega | (simp only [lnA, List.length_map, List.length_range, true_and, and_true]; (try omega); done) | fail)) only [go_sem, hz, Int.reduceEq, Int.reduceToNat, Nat.reduceAdd, Nat.reduceMul, Nat.reduceEqDiff, ↓reduceIte]
    exact endW [] hQ
  · obtain ⟨t1, t2, t3⟩ := dg_top h0
    refine runW ?_
    refine loopW (X := Nat × List UInt8) (st := fun z => ([(0, .row 1 ((nl (dg n)).map (ie .i64))), (3, .lit (.string (bs z.2))), (4, .lit (.int .i64 (z.1 : Int)))], []))
      (inv := fun z => z.1 ≤ (dg n).length ∧ z.2.length ≤ 4 * z.1 ∧ ((z.1 < (dg n).length ∧ z.2 = decB (decL (4 * z.1) n)) ∨ (z.1 = (dg n).length ∧ z.2 = decS n))) (m := fun z => (dg n).length - z.1) (0, []) [] ⟨Nat.zero_le _, by simp, .inl ⟨t1, rfl⟩⟩ ?_
    rintro ⟨i, s⟩ ⟨hi, hsl, hs⟩
    simp only at hi hsl hs ⊢
    rcases hs with ⟨hil, hs⟩ | ⟨rfl, rfl⟩
    · have hg := nl_get (dg n) i
      rw [dg_at n i hil] at hg
      have hml : n / 10000 ^ i % 10000 < 10000 := Nat.mod_lt _ (by decide)
      have e4 : (10000 : Nat) ^ i = 10 ^ (4 * i) := by rw [show (10000 : Nat) = 10 ^ 4 from rfl, ← Nat.pow_mul]
      have htop : i = (dg n).length - 1 → n / 10 ^ (4 * i) % 10000 = n / 10 ^ (4 * i) ∧ n / 10 ^ (4 * i) ≠ 0 := fun e => by
        subst e
        rw [← e4]
        exact ⟨Nat.mod_eq_of_lt t3, t2⟩
      have hsplit := fun h => decS_split (n := n) (j := 4 * i) h
      have hd4 : decB (decL (4 * (i + 1)) n) = decB (decL 4 (n / 10 ^ (4 * i) % 10000)) ++ decB (decL (4 * i) n) := by
        rw [show 4 * (i + 1) = 4 + 4 * i by omega, decL_add, decB_app, show (10000 : Nat) = 10 ^ 4 from rfl, decL_mod]
      rw [e4] at hg hml
      generalize n / 10 ^ (4 * i) = w at *
      obtain ⟨d, hd⟩ : ∃ d, w % 10000 = d := ⟨_, rfl⟩
      rw [hd] at hg hml hd4 htop
      simp (maxSteps := 1000000) (disch := (first | omega | (simp only [lnA, List.length_map, List.length_range, true_and, and_true]; (try omega); done) | fail)) only [go_sem, hg, Int.reduceEq, Int.reduceToNat, Nat.reduceAdd, Nat.reduceMul, Nat.reduceEqDiff, ↓reduceIte]
      refine LoopV_of (X := Nat) (st := fun k => ([(0, .row 1 ((nl (dg n)).map (ie .i64))), (3, .lit (.string (bs (decB (decL k d) ++ s)))), (4, .lit (.int .i64 (i : Int))), (5, .lit (.int .i64 ((d / 10 ^ k : Nat) : Int))), (6, .lit (.int .i64 (k : Int)))], []))
        (inv := fun k => k ≤ 4 ∧ (i < (dg n).length - 1 ∨ k = 0 ∨ d / 10 ^ (k - 1) ≠ 0)) (m := fun k => 4 - k) 0 [] rfl (by simp (disch := (first | omega | (simp only [lnA, List.length_map, List.length_range, true_and, and_true]; (try omega); done) | fail)) only [go_sem, Int.reduceEq, Int.reduceToNat, Nat.reduceAdd, Nat.reduceMul, Nat.reduceEqDiff, ↓reduceIte, true_and, and_true, and_self, List.drop_zero, List.take_length, Nat.le_refl, V.lit.injEq, Value.int.injEq, Value.bool.injEq]; try (first | omega | (simp; done) | (simp; omega))) (by simp only [decL, decB, List.map_nil, List.nil_append, Nat.pow_zero, Nat.div_one]; (simp (disch := (first | omega | (simp only [lnA, List.length_map, List.length_range, true_and, and_true]; (try omega); done) | fail)) only [go_sem, Int.reduceEq, Int.reduceToNat, Nat.reduceAdd, Nat.reduceMul, Nat.reduceEqDiff, ↓reduceIte, true_and, and_true, and_self, List.drop_zero, List.take_length, Nat.le_refl, V.lit.injEq, Value.int.injEq, Value.bool.injEq]; try (first | omega | (simp; done) | (simp; omega)))) ⟨by omega, .inr (.inl rfl)⟩ ?_
      rintro k ⟨hk, hkk⟩
      have hdk : d / 10 ^ k ≤ d := Nat.div_le_self _ _
      have hkl : (decL k d).length = k := decL_len k d
      have hbl : (decB (decL k d)).length = k := by rw [decB_len]; exact hkl
      have hs1 : decL (k + 1) d = d / 10 ^ k % 10 :: decL k d := by
        rw [Nat.add_comm, decL_add k 1]; rfl
      have hs2 : d / 10 ^ (k + 1) = d / 10 ^ k / 10 := by rw [Nat.pow_succ, Nat.div_div_eq_div_mul]
      have hpp : 0 < 10 ^ k := Nat.pow_pos (by decide)
      have hz0 : d / 10 ^ k = 0 → d < 10 ^ k := fun e => (Nat.div_eq_zero_iff_lt hpp).1 e
      have hfin : (¬ (k < 4 ∧ (i < (dg n).length - 1 ∨ d / 10 ^ k ≠ 0))) → (i + 1 ≤ (dg n).length ∧ (decB (decL k d) ++ s).length ≤ 4 * (i + 1) ∧ ((i + 1 < (dg n).length ∧ decB (decL k d) ++ s = decB (decL (4 * (i + 1)) n)) ∨ (i + 1 = (dg n).length ∧ decB (decL k d) ++ s = decS n))) := fun hc => by
        refine ⟨by omega, by rw [List.length_append, hbl]; omega, ?_⟩
        by_cases hil2 : i < (dg n).length - 1
        · obtain rfl : k = 4 := by
            refine Classical.byContradiction fun h4 => hc ⟨by omega, .inl hil2⟩
          exact .inl ⟨by omega, by rw [hd4, hs]⟩
        · obtain ⟨q1, q2⟩ := htop (by omega)
          refine .inr ⟨by omega, ?_⟩
          rw [hsplit q2, hs, ← q1]
          have hd0 : d ≠ 0 := by rw [q1]; exact q2
          have hlt : d < 10 ^ k := by
            by_cases h4 : k = 4
            · subst h4; simpa using hml
            · refine hz0 (Classical.byContradiction fun h => hc ⟨by omega, .inr h⟩)
          have hk1 : 1 ≤ k := by
            rcases Nat.eq_zero_or_pos k with e | e
            · subst e; simp at hlt; omega
            · exact e
          have hge : 10 ^ (k - 1) ≤ d := by
            rcases hkk with h | h | h
            · omega
            · omega
            · refine Classical.byContradiction fun hn => h (Nat.div_eq_of_lt (by omega))
          unfold decS
          rw [nd10_eq hk1 hlt (.inl hge)]
      have hby : UInt8.ofNat (48 + ((d / 10 ^ k : Nat) : Int) % 10).toNat = UInt8.ofNat (48 + d / 10 ^ k % 10) := by congr 1
      have hcat : decB (decL (k + 1) d) ++ s = UInt8.ofNat (48 + d / 10 ^ k % 10) :: (decB (decL k d) ++ s) := by rw [hs1]; rfl
      generalize hx : d / 10 ^ k = x at *
      by_cases hc : k < 4 ∧ (i < (dg n).length - 1 ∨ x ≠ 0)
      · obtain ⟨hc1, hc2⟩ := hc
        by_cases hil2 : i < (dg n).length - 1
        · simp (maxSteps := 1000000) (disch := (first | omega | (simp only [lnA, List.length_map, List.length_range, true_and, and_true]; (try omega); done) | fail)) only [go_sem, hby, List.length_append, hbl, Int.reduceEq, Int.reduceToNat, Nat.reduceAdd, Nat.reduceMul, Nat.reduceEqDiff, ↓reduceIte]
          refine NextV_of (k + 1) [] rfl (by simp (disch := (first | omega | (simp only [lnA, List.length_map, List.length_range, true_and, and_true]; (try omega); done) | fail)) only [go_sem, Int.reduceEq, Int.reduceToNat, Nat.reduceAdd, Nat.reduceMul, Nat.reduceEqDiff, ↓reduceIte, true_and, and_true, and_self, List.drop_zero, List.take_length, Nat.le_refl, V.lit.injEq, Value.int.injEq, Value.bool.injEq]; try (first | omega | (simp; done) | (simp; omega))) (by rw [hcat, hs2]; (simp (disch := (first | omega | (simp only [lnA, List.length_map, List.length_range, true_and, and_true]; (try omega); done) | fail)) only [go_sem, Int.reduceEq, Int.reduceToNat, Nat.reduceAdd, Nat.reduceMul, Nat.reduceEqDiff, ↓reduceIte, true_and, and_true, and_self, List.drop_zero, List.take_length, Nat.le_refl, V.lit.injEq, Value.int.injEq, Value.bool.injEq]; try (first | omega | (simp; done) | (simp; omega)))) ⟨by omega, .inl hil2⟩ (by omega)
        · have hx0 : x ≠ 0 := hc2.resolve_left hil2
          simp (maxSteps := 1000000) (disch := (first | omega | (simp only [lnA, List.length_map, List.length_range, true_and, and_true]; (try omega); done) | fail)) only [go_sem, hby, List.length_append, hbl, Int.reduceEq, Int.reduceToNat, Nat.reduceAdd, Nat.reduceMul, Nat.reduceEqDiff, ↓reduceIte]
          refine NextV_of (k + 1) [] rfl (by simp (disch := (first | omega | (simp only [lnA, List.length_map, List.length_range, true_and, and_true]; (try omega); done) | fail)) only [go_sem, Int.reduceEq, Int.reduceToNat, Nat.reduceAdd, Nat.reduceMul, Nat.reduceEqDiff, ↓reduceIte, true_and, and_true, and_self, List.drop_zero, List.take_length, Nat.le_refl, V.lit.injEq, Value.int.injEq, Value.bool.injEq]; try (first | omega | (simp; done) | (simp; omega))) (by rw [hcat, hs2]; (simp (disch := (first | omega | (simp only [lnA, List.length_map, List.length_range, true_and, and_true]; (try omega); done) | fail)) only [go_sem, Int.reduceEq, Int.reduceToNat, Nat.reduceAdd, Nat.reduceMul, Nat.reduceEqDiff, ↓reduceIte, true_and, and_true, and_self, List.drop_zero, List.take_length, Nat.le_refl, V.lit.injEq, Value.int.injEq, Value.bool.injEq]; try (first | omega | (simp; done) | (simp; omega)))) ⟨by omega, .inr (.inr (by rw [Nat.add_sub_cancel, hx]; exact hx0))⟩ (by omega)
      · by_cases h4 : k < 4
        · have hil2 : ¬ i < (dg n).length - 1 := fun e => hc ⟨h4, .inl e⟩
          have hx0 : ¬ 0 < x := fun e => hc ⟨h4, .inr (by omega)⟩
          refine runW ?_
          refine nextW (i + 1, decB (decL k d) ++ s) [] (hfin hc) (by simp only; omega)
        · refine runW ?_
          refine nextW (i + 1, decB (decL k d) ++ s) [] (hfin hc) (by simp only; omega)
    · refine runW ?_
      exact endW [] hQ
end Go.Proofs.YtdmdmdoeahhkiaaGreatDoor
