import Derived.Test.YtnfmpphlkalbfaaGreatDoorYu
/-! strconv.ParseUint of a few digits. -/
namespace Go.Proofs.YtnfmpphlkalbfaaGreatDoor
open Go.Eng Go.Vx
set_option linter.unusedSimpArgs false
set_option linter.unusedVariables false
set_option maxRecDepth 100000
/-- The number of a decimal text. -/
def valD (s : List UInt8) : Nat := s.foldl (fun n b => n * 10 + (b.toNat - 48)) 0
theorem valD_snoc (s : List UInt8) (b : UInt8) : valD (s ++ [b]) = valD s * 10 + (b.toNat - 48) := by unfold valD; rw [List.foldl_append]; rfl
theorem valD_lt : ∀ {s : List UInt8}, (∀ b ∈ s, isD b = true) → valD s < 10 ^ s.length := by
  have : ∀ (k : Nat) (s : List UInt8), s.length = k → (∀ b ∈ s, isD b = true) → valD s < 10 ^ s.length := by
    intro k
    induction k with
    | zero => intro s hs _; rw [List.length_eq_zero_iff.1 hs]; decide
    | succ k ih =>
      intro s hs ha
      have hne : s ≠ [] := fun e => by rw [e] at hs; simp at hs
      have e := List.dropLast_concat_getLast hne
      have h1 := ih s.dropLast (by simp [hs]) (fun b hb => ha b (List.dropLast_subset s hb))
      have h2 := ha (s.getLast hne) (List.getLast_mem hne)
      have h3 : s.dropLast.length = k := by simp [hs]
      rw [← e, valD_snoc, List.length_append, List.length_cons, List.length_nil, Nat.pow_succ]
      rw [h3] at h1 ⊢
      unfold isD at h2
      have h2 := of_decide_eq_true h2
      omega
  exact fun {s} h => this _ s rfl h
theorem nbD {s : List UInt8} (i : Nat) : (s.map fun x => (x.toNat : Int)).getD i 0 = ((s.getD i 0).toNat : Int) := by
  simp only [List.getD_eq_getElem?_getD, List.getElem?_map]
  cases s[i]? <;> rfl
theorem puint_fn {s : List UInt8} (h0 : s ≠ []) (hs : s.length ≤ 18) (ha : ∀ b ∈ s, isD b = true) : Fn1 Tryz.prog 121 [.lit (.string (bs s)), .lit (.int .i64 10), .lit (.int .i64 64)] [] (.tup [.lit (.int .u64 (valD s : Int)), .lit .nilIface]) [] := by
  have hl0 : s.length ≠ 0 := fun e => h0 (List.length_eq_zero_iff.1 e)
  have hd0 : decide (s = []) = false := decide_eq_false h0
  have hnb : (s.map fun x => (x.toNat : Int)).length = s.length := by simp
  refine fn1N_of pl121 (by kernel_rfl) Tryz.call121 Tryz.func121 rfl (by kernel_rfl) rfl [.tmp 6, .tmp 7] (by kernel_rfl) fun Q hQ => ?_
  have hM1 : IntKind.u64.wrap (IntKind.u64.wrap (1 * 2 ^ 64) - 1) = 18446744073709551615 := by decide
  simp (maxSteps := 1000000) (disch := (first | omega | (simp only [lnA, List.length_map, List.length_range, true_and, and_true]; (try omega); done) | fail)) only [go_sem, hd0, hM1, Int.reduceEq, Int.reduceToNat, Nat.reduceAdd, Nat.reduceMul, Nat.reduceEqDiff, ↓reduceIte]
  refine LoopV_of (X := Nat) (st := fun i => ([(1, .lit (.int .i64 10)), (8, .lit (.bool false)), (9, .lit (.string (bs s))), (10, .lit (.int .u64 1844674407370955162)), (11, .lit (.int .u64 18446744073709551615)), (12, .lit (.bool false)), (13, .lit (.int .u64 (valD (s.take i) : Int))), (99, .row 1 ((s.map fun x => (x.toNat : Int)).map (ie .u8))), (100, .lit (.int .i64 (s.length : Int))), (101, .lit (.int .i64 (i : Int)))], []))
    (inv := fun i => i ≤ s.length) (m := fun i => s.length - i) 0 [] rfl (by simp (disch := (first | omega | (simp only [lnA, List.length_map, List.length_range, true_and, and_true]; (try omega); done) | fail)) only [go_sem, Int.reduceEq, Int.reduceToNat, Nat.reduceAdd, Nat.reduceMul, Nat.reduceEqDiff, ↓reduceIte, true_and, and_true, and_self, List.drop_zero, List.take_length, Nat.le_refl, V.lit.injEq, Value.int.injEq, Value.bool.injEq]; try (first | omega | (simp; done) | (simp; omega))) (by rw [List.take_zero, show valD [] = 0 from rfl]; (simp (disch := (first | omega | (simp only [lnA, List.length_map, List.length_range, true_and, and_true]; (try omega); done) | fail)) only [go_sem, Int.reduceEq, Int.reduceToNat, Nat.reduceAdd, Nat.reduceMul, Nat.reduceEqDiff, ↓reduceIte, true_and, and_true, and_self, List.drop_zero, List.take_length, Nat.le_refl, V.lit.injEq, Value.int.injEq, Value.bool.injEq]; try (first | omega | (simp; done) | (simp; omega)))) (by omega) ?_
  intro i hi
  have hlt := valD_lt (s := s.take i) (fun b hb => ha b (List.mem_of_mem_take hb))
  have htl : (s.take i).length = i := by rw [List.length_take]; omega
  rw [htl] at hlt
  by_cases h : i < s.length
  · have hlt2 : 10 ^ i ≤ 10 ^ 17 := Nat.pow_le_pow_right (by decide) (by omega)
    have hb : 48 ≤ (s.getD i 0).toNat ∧ (s.getD i 0).toNat ≤ 57 := by
      have : s.getD i 0 = s[i] := by simp [List.getD_eq_getElem?_getD, h]
      rw [this]
      exact of_decide_eq_true (ha _ (List.getElem_mem h))
    have hsn : valD (s.take (i + 1)) = valD (s.take i) * 10 + ((s.getD i 0).toNat - 48) := by
      rw [List.take_succ_eq_append_getElem h, valD_snoc]
      simp [List.getD_eq_getElem?_getD, h]
    have hg := nbD (s := s) i
    generalize valD (s.take i) = n at *
    obtain ⟨c, hc⟩ : ∃ c, (s.getD i 0).toNat = c := ⟨_, rfl⟩
    rw [hc] at hg hb hsn
    simp (maxSteps := 1000000) (disch := (first | omega | (simp only [lnA, List.length_map, List.length_range, true_and, and_true]; (try omega); done) | fail)) only [go_sem, hg, Int.reduceEq, Int.reduceToNat, Nat.reduceAdd, Nat.reduceMul, Nat.reduceEqDiff, ↓reduceIte]
    refine NextV_of (i + 1) [] rfl (by simp (disch := (first | omega | (simp only [lnA, List.length_map, List.length_range, true_and, and_true]; (try omega); done) | fail)) only [go_sem, Int.reduceEq, Int.reduceToNat, Nat.reduceAdd, Nat.reduceMul, Nat.reduceEqDiff, ↓reduceIte, true_and, and_true, and_self, List.drop_zero, List.take_length, Nat.le_refl, V.lit.injEq, Value.int.injEq, Value.bool.injEq]; try (first | omega | (simp; done) | (simp; omega))) (by rw [hsn]; (simp (disch := (first | omega | (simp only [lnA, List.length_map, List.length_range, true_and, and_true]; (try omega); done) | fail)) only [go_sem, Int.reduceEq, Int.reduceToNat, Nat.reduceAdd, Nat.reduceMul, Nat.reduceEqDiff, ↓reduceIte, true_and, and_true, and_self, List.drop_zero, List.take_length, Nat.le_refl, V.lit.injEq, Value.int.injEq, Value.bool.injEq]; try (first | omega | (simp; done) | (simp; omega)))) (by omega) (by omega)
  · have e : s.take i = s := List.take_of_length_le (by omega)
    rw [e]
    simp (maxSteps := 1000000) (disch := (first | omega | (simp only [lnA, List.length_map, List.length_range, true_and, and_true]; (try omega); done) | fail)) only [go_sem, Int.reduceEq, Int.reduceToNat, Nat.reduceAdd, Nat.reduceMul, Nat.reduceEqDiff, ↓reduceIte]
    exact endW [] hQ
theorem suint_fn {s : List UInt8} (h0 : s ≠ []) (hs : s.length ≤ 18) (ha : ∀ b ∈ s, isD b = true) : Fn1 Tryz.prog 97 [.lit (.string (bs s)), .lit (.int .i64 10), .lit (.int .i64 64)] [] (.tup [.lit (.int .u64 (valD s : Int)), .lit .nilIface]) [] := by
  have h := puint_fn h0 hs ha
  refine fn1N_of pl97 (by kernel_rfl) Tryz.call97 Tryz.func97 rfl (by kernel_rfl) rfl [.tmp 6, .tmp 7] (by kernel_rfl) fun Q hQ => ?_
  simp (maxSteps := 1000000) (disch := (first | omega | (simp only [lnA, List.length_map, List.length_range, true_and, and_true]; (try omega); done) | fail)) only [go_sem, Int.reduceEq, Int.reduceToNat, Nat.reduceAdd, Nat.reduceMul, Nat.reduceEqDiff, ↓reduceIte]
  refine callV0 (h) rfl rfl ?_
  simp (maxSteps := 1000000) (disch := (first | omega | (simp only [lnA, List.length_map, List.length_range, true_and, and_true]; (try omega); done) | fail)) only [go_sem, Int.reduceEq, Int.reduceToNat, Nat.reduceAdd, Nat.reduceMul, Nat.reduceEqDiff, ↓reduceIte]
  exact endW [] hQ
end Go.Proofs.YtnfmpphlkalbfaaGreatDoor
