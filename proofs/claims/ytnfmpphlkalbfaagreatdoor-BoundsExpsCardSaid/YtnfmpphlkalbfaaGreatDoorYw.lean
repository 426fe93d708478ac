import Derived.Test.YtnfmpphlkalbfaaGreatDoorYv
import Derived.Test.YtnfmpphlkalbfaaGreatDoorYl
/-! nat.Parse. -/
namespace Go.Proofs.YtnfmpphlkalbfaaGreatDoor
open Go.Eng Go.Vx
set_option linter.unusedSimpArgs false
set_option linter.unusedVariables false
set_option maxRecDepth 100000
theorem valD_app (a : List UInt8) : ∀ (k : Nat) (b : List UInt8), b.length = k → valD (a ++ b) = valD a * 10 ^ k + valD b := by
  intro k
  induction k with
  | zero => intro b hb; rw [List.length_eq_zero_iff.1 hb]; simp [valD]
  | succ k ih =>
    intro b hb
    have hne : b ≠ [] := fun e => by rw [e] at hb; simp at hb
    have e := List.dropLast_concat_getLast hne
    have h := ih b.dropLast (by simp [hb])
    conv => lhs; rw [← e, ← List.append_assoc, valD_snoc, h]
    conv => rhs; rw [← e, valD_snoc]
    rw [Nat.pow_succ, Nat.add_mul, Nat.mul_assoc]
    omega
/-- The texts that numbers have. -/
def okT (s : List UInt8) : Prop := s ≠ [] ∧ ¬ (1 < s.length ∧ s.getD 0 0 = 48) ∧ s.all isD = true
theorem nparseB_fn {s : List UInt8} (hl : s.length ≤ 2000) (h : ¬ okT s) : Fn1 Tryz.prog 65 [.lit (.string (bs s))] [] (.tup [NV 0, .lit (.int .i64 4)]) [] := by
  rw [NV_zero]
  have ht := trimD_fn (s := s) (by omega)
  by_cases h0 : s = []
  · subst h0
    refine fn1N_of pl65 (by kernel_rfl) Tryz.call65 Tryz.func65 rfl (by kernel_rfl) rfl [.cell 2 27, .tmp 3] (by kernel_rfl) fun Q hQ => ?_
    simp (maxSteps := 1000000) (disch := (first | omega | (simp only [lnA, List.length_map, List.length_range, true_and, and_true]; (try omega); done) | fail)) only [go_sem, Int.reduceEq, Int.reduceToNat, Nat.reduceAdd, Nat.reduceMul, Nat.reduceEqDiff, ↓reduceIte]
    exact endW [] hQ
  · have hl0 : s.length ≠ 0 := fun e => h0 (List.length_eq_zero_iff.1 e)
    have hd0 : decide (s = []) = false := decide_eq_false h0
    have fin : s.all isD = false → (decide (((s.reverse.dropWhile isD).reverse).dropWhile isD = [])) = false := fun e => decide_eq_false fun hc => by rw [trim_nil.1 hc] at e; cases e
    by_cases h1 : 1 < s.length
    · by_cases h2 : s.getD 0 0 = 48
      · have hg : ((s.getD 0 0).toNat : Int) = 48 := by rw [h2]; rfl
        refine fn1N_of pl65 (by kernel_rfl) Tryz.call65 Tryz.func65 rfl (by kernel_rfl) rfl [.cell 2 27, .tmp 3] (by kernel_rfl) fun Q hQ => ?_
        simp (maxSteps := 1000000) (disch := (first | omega | (simp only [lnA, List.length_map, List.length_range, true_and, and_true]; (try omega); done) | fail)) only [go_sem, hd0, hg, Int.reduceEq, Int.reduceToNat, Nat.reduceAdd, Nat.reduceMul, Nat.reduceEqDiff, ↓reduceIte]
        exact endW [] hQ
      · have hf := fin (by
          cases e : s.all isD with
          | true => exact absurd ⟨h0, fun hc => h2 hc.2, e⟩ h
          | false => rfl)
        have hg : decide (((s.getD 0 0).toNat : Int) = 48) = false := decide_eq_false fun e => h2 (UInt8.toNat_inj.1 (by
          have : (s.getD 0 0).toNat = 48 := by omega
          rw [this]; rfl))
        generalize ((s.reverse.dropWhile isD).reverse).dropWhile isD = r at *
        refine fn1N_of pl65 (by kernel_rfl) Tryz.call65 Tryz.func65 rfl (by kernel_rfl) rfl [.cell 2 27, .tmp 3] (by kernel_rfl) fun Q hQ => ?_
        simp (maxSteps := 1000000) (disch := (first | omega | (simp only [lnA, List.length_map, List.length_range, true_and, and_true]; (try omega); done) | fail)) only [go_sem, hd0, hg, Int.reduceEq, Int.reduceToNat, Nat.reduceAdd, Nat.reduceMul, Nat.reduceEqDiff, ↓reduceIte]
        refine callV0 (ht) rfl rfl ?_
        simp (maxSteps := 1000000) (disch := (first | omega | (simp only [lnA, List.length_map, List.length_range, true_and, and_true]; (try omega); done) | fail)) only [go_sem, hf, Int.reduceEq, Int.reduceToNat, Nat.reduceAdd, Nat.reduceMul, Nat.reduceEqDiff, ↓reduceIte]
        exact endW [] hQ
    · have hf := fin (by
        cases e : s.all isD with
        | true => exact absurd ⟨h0, fun hc => h1 hc.1, e⟩ h
        | false => rfl)
      generalize ((s.reverse.dropWhile isD).reverse).dropWhile isD = r at *
      refine fn1N_of pl65 (by kernel_rfl) Tryz.call65 Tryz.func65 rfl (by kernel_rfl) rfl [.cell 2 27, .tmp 3] (by kernel_rfl) fun Q hQ => ?_
      simp (maxSteps := 1000000) (disch := (first | omega | (simp only [lnA, List.length_map, List.length_range, true_and, and_true]; (try omega); done) | fail)) only [go_sem, hd0, Int.reduceEq, Int.reduceToNat, Nat.reduceAdd, Nat.reduceMul, Nat.reduceEqDiff, ↓reduceIte]
      refine callV0 (ht) rfl rfl ?_
      simp (maxSteps := 1000000) (disch := (first | omega | (simp only [lnA, List.length_map, List.length_range, true_and, and_true]; (try omega); done) | fail)) only [go_sem, hf, Int.reduceEq, Int.reduceToNat, Nat.reduceAdd, Nat.reduceMul, Nat.reduceEqDiff, ↓reduceIte]
      exact endW [] hQ
theorem nparse_fn {s : List UInt8} (hl : s.length ≤ 2000) (h : okT s) : Fn1 Tryz.prog 65 [.lit (.string (bs s))] [] (.tup [NV (valD s), .lit (.int .i64 0)]) [] := by
  obtain ⟨h0, h1, ha⟩ := h
  have hl0 : s.length ≠ 0 := fun e => h0 (List.length_eq_zero_iff.1 e)
  have hd0 : decide (s = []) = false := decide_eq_false h0
  have ht := trimD_fn (s := s) (by omega)
  rw [trim_nil.2 ha] at ht
  have hall : ∀ b ∈ s, isD b = true := List.all_eq_true.1 ha
  have hz : 1 < s.length → decide (((s.getD 0 0).toNat : Int) = 48) = false := fun h => decide_eq_false fun e => h1 ⟨h, UInt8.toNat_inj.1 (by
    have : (s.getD 0 0).toNat = 48 := by omega
    rw [this]; rfl)⟩
  refine fn1N_of pl65 (by kernel_rfl) Tryz.call65 Tryz.func65 rfl (by kernel_rfl) rfl [.cell 2 27, .tmp 3] (by kernel_rfl) fun Q hQ => ?_
  by_cases hlen : 1 < s.length
  case' pos =>
    have hz := hz hlen
    simp (maxSteps := 1000000) (disch := (first | omega | (simp only [lnA, List.length_map, List.length_range, true_and, and_true]; (try omega); done) | fail)) only [go_sem, hd0, hz, Int.reduceEq, Int.reduceToNat, Nat.reduceAdd, Nat.reduceMul, Nat.reduceEqDiff, ↓reduceIte]
    refine callV0 (ht) rfl rfl ?_
    simp (maxSteps := 1000000) (disch := (first | omega | (simp only [lnA, List.length_map, List.length_range, true_and, and_true]; (try omega); done) | fail)) only [go_sem, decide_true, Int.reduceEq, Int.reduceToNat, Nat.reduceAdd, Nat.reduceMul, Nat.reduceEqDiff, ↓reduceIte]
  case' neg =>
    simp (maxSteps := 1000000) (disch := (first | omega | (simp only [lnA, List.length_map, List.length_range, true_and, and_true]; (try omega); done) | fail)) only [go_sem, hd0, Int.reduceEq, Int.reduceToNat, Nat.reduceAdd, Nat.reduceMul, Nat.reduceEqDiff, ↓reduceIte]
    refine callV0 (ht) rfl rfl ?_
    simp (maxSteps := 1000000) (disch := (first | omega | (simp only [lnA, List.length_map, List.length_range, true_and, and_true]; (try omega); done) | fail)) only [go_sem, decide_true, Int.reduceEq, Int.reduceToNat, Nat.reduceAdd, Nat.reduceMul, Nat.reduceEqDiff, ↓reduceIte]
  all_goals
    refine LoopV_of (X := Nat) (st := fun k => ([(0, .lit (.string (bs (s.drop k)))), (2, .ref 0 0 0 0), (4, .ref 1 0 0 0)], [some (.cells [.row 1 []]), some (.cells [.row 1 ((nl (wg (valD (s.take k)))).map (ie .u64))])]))
      (inv := fun k => k ≤ s.length ∧ (k = 0 ∨ (s.length - k) % 18 = 0)) (m := fun k => s.length - k) 0 [some 0, some 1] rfl (by rw [List.take_zero, show valD [] = 0 from rfl, wg_zero]; (simp (disch := (first | omega | (simp only [lnA, List.length_map, List.length_range, true_and, and_true]; (try omega); done) | fail)) only [go_sem, Int.reduceEq, Int.reduceToNat, Nat.reduceAdd, Nat.reduceMul, Nat.reduceEqDiff, ↓reduceIte, true_and, and_true, and_self, List.drop_zero, List.take_length, Nat.le_refl, V.lit.injEq, Value.int.injEq, Value.bool.injEq]; try (first | omega | (simp; done) | (simp; omega)))) (by rw [List.drop_zero]; (simp (disch := (first | omega | (simp only [lnA, List.length_map, List.length_range, true_and, and_true]; (try omega); done) | fail)) only [go_sem, Int.reduceEq, Int.reduceToNat, Nat.reduceAdd, Nat.reduceMul, Nat.reduceEqDiff, ↓reduceIte, true_and, and_true, and_self, List.drop_zero, List.take_length, Nat.le_refl, V.lit.injEq, Value.int.injEq, Value.bool.injEq]; try (first | omega | (simp; done) | (simp; omega)))) ⟨by omega, .inl rfl⟩ ?_
    rintro k ⟨hk, hkk⟩
    have hdl : (s.drop k).length = s.length - k := List.length_drop
    by_cases hgo : k < s.length
    · obtain ⟨m, hm⟩ : ∃ m, (s.length - k - 1) % 18 + 1 = m := ⟨_, rfl⟩
      have hm1 : 1 ≤ m ∧ m ≤ 18 ∧ m ≤ s.length - k := by omega
      have hstep : s.take (k + m) = s.take k ++ (s.drop k).take m := by rw [List.take_add]
      have hdrop : (s.drop k).drop m = s.drop (k + m) := by rw [List.drop_drop]
      have hal : ∀ b ∈ (s.drop k).take m, isD b = true := fun b hb => hall b (List.mem_of_mem_drop (List.mem_of_mem_take hb))
      have hv : valD (s.take (k + m)) = valD (s.take k) * 1000000000000000000 + valD ((s.drop k).take m) := by
        rw [hstep, valD_app _ m _ (by rw [List.length_take, hdl]; omega)]
        rcases hkk with rfl | hkk
        · rw [List.take_zero, show valD [] = 0 from rfl, Nat.zero_mul, Nat.zero_mul]
        · rw [show m = 18 by omega]
      have hkk2 : (s.length - (k + m)) % 18 = 0 := by omega
      have hpl := valD_lt (s := (s.drop k).take m) hal
      have hpl2 : ((s.drop k).take m).length = m := by rw [List.length_take, hdl]; omega
      rw [hpl2] at hpl
      have hp18 : 10 ^ m ≤ 10 ^ 18 := Nat.pow_le_pow_right (by decide) hm1.2.1
      have hsu := suint_fn (s := (s.drop k).take m) (fun e => by rw [e] at hpl2; simp at hpl2; omega) (by omega) hal
      have hol := valD_lt (s := s.take k) (fun b hb => hall b (List.mem_of_mem_take hb))
      have htl : (s.take k).length = k := by rw [List.length_take]; omega
      rw [htl] at hol
      have hwo : (wg (valD (s.take k))).length ≤ 2000 := Nat.le_trans (wg_len (Nat.lt_of_lt_of_le hol (Nat.pow_le_pow_left (by decide) k))) (by omega)
      generalize valD (s.take k) = out at *
      generalize valD ((s.drop k).take m) = part at *
      have htk : (s.drop k).take (s.drop k).length = s.drop k := List.take_length
      generalize s.drop k = r at *
      have hn : ((r.length : Int) - 1) % 18 + 1 = (m : Int) := by omega
      have hw18 : (wg 1000000000000000000).length ≤ 1 := wg_one (by decide)
      have hmul := nmul_fn (a := out) (b := 1000000000000000000) (by omega) (by omega)
      have hml := wmul_len out 1000000000000000000
      have hwp : (wg part).length ≤ 1 := wg_one (by omega)
      have hadd := nadd_fn (a := out * 1000000000000000000) (b := part) (by omega) (by omega)
      rw [← hv] at hadd
      have o1 := of1_fn (x := 1000000000000000000) (by decide)
      have o2 := of1_fn (x := part) (by omega)
      clear hv hstep
      generalize out * 1000000000000000000 = om at *
      simp (maxSteps := 1000000) (disch := (first | omega | (simp only [lnA, List.length_map, List.length_range, true_and, and_true]; (try omega); done) | fail)) only [go_sem, hn, htk, Int.reduceEq, Int.reduceToNat, Nat.reduceAdd, Nat.reduceMul, Nat.reduceEqDiff, ↓reduceIte]
      refine callV0 (hsu) rfl rfl ?_
      simp (maxSteps := 1000000) (disch := (first | omega | (simp only [lnA, List.length_map, List.length_range, true_and, and_true]; (try omega); done) | fail)) only [go_sem, hn, htk, Int.reduceEq, Int.reduceToNat, Nat.reduceAdd, Nat.reduceMul, Nat.reduceEqDiff, ↓reduceIte]
      refine callW [] [2] (o1) ?_
      simp (maxSteps := 1000000) (disch := (first | omega | (simp only [lnA, List.length_map, List.length_range, true_and, and_true]; (try omega); done) | fail)) only [go_sem, Int.reduceEq, Int.reduceToNat, Nat.reduceAdd, Nat.reduceMul, Nat.reduceEqDiff, ↓reduceIte]
      refine callV0 (hmul) rfl rfl ?_
      simp (maxSteps := 1000000) (disch := (first | omega | (simp only [lnA, List.length_map, List.length_range, true_and, and_true]; (try omega); done) | fail)) only [go_sem, Int.reduceEq, Int.reduceToNat, Nat.reduceAdd, Nat.reduceMul, Nat.reduceEqDiff, ↓reduceIte]
      refine callW [] [3] (o2) ?_
      simp (maxSteps := 1000000) (disch := (first | omega | (simp only [lnA, List.length_map, List.length_range, true_and, and_true]; (try omega); done) | fail)) only [go_sem, Int.reduceEq, Int.reduceToNat, Nat.reduceAdd, Nat.reduceMul, Nat.reduceEqDiff, ↓reduceIte]
      refine callV0 (hadd) rfl rfl ?_
      simp (maxSteps := 1000000) (disch := (first | omega | (simp only [lnA, List.length_map, List.length_range, true_and, and_true]; (try omega); done) | fail)) only [go_sem, htk, hdrop, Int.reduceEq, Int.reduceToNat, Nat.reduceAdd, Nat.reduceMul, Nat.reduceEqDiff, ↓reduceIte]
      refine NextV_of (k + m) [some 0, some 1] rfl (by simp (disch := (first | omega | (simp only [lnA, List.length_map, List.length_range, true_and, and_true]; (try omega); done) | fail)) only [go_sem, Int.reduceEq, Int.reduceToNat, Nat.reduceAdd, Nat.reduceMul, Nat.reduceEqDiff, ↓reduceIte, true_and, and_true, and_self, List.drop_zero, List.take_length, Nat.le_refl, V.lit.injEq, Value.int.injEq, Value.bool.injEq]; try (first | omega | (simp; done) | (simp; omega))) (by rw [← hdrop]; (simp (disch := (first | omega | (simp only [lnA, List.length_map, List.length_range, true_and, and_true]; (try omega); done) | fail)) only [go_sem, Int.reduceEq, Int.reduceToNat, Nat.reduceAdd, Nat.reduceMul, Nat.reduceEqDiff, ↓reduceIte, true_and, and_true, and_self, List.drop_zero, List.take_length, Nat.le_refl, V.lit.injEq, Value.int.injEq, Value.bool.injEq]; try (first | omega | (simp; done) | (simp; omega)))) ⟨by omega, .inr hkk2⟩ (by omega)
    · obtain rfl : k = s.length := by omega
      have e : s.take s.length = s := List.take_length
      rw [e]
      simp (maxSteps := 1000000) (disch := (first | omega | (simp only [lnA, List.length_map, List.length_range, true_and, and_true]; (try omega); done) | fail)) only [go_sem, Int.reduceEq, Int.reduceToNat, Nat.reduceAdd, Nat.reduceMul, Nat.reduceEqDiff, ↓reduceIte]
      exact endW [] hQ
end Go.Proofs.YtnfmpphlkalbfaaGreatDoor
