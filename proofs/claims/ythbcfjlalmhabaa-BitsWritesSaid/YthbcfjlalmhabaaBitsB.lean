import Derived.Test.YthbcfjlalmhabaaBits
/-! Package bits: numbers. -/
namespace Go.Proofs.Ythbcfjlalmhabaa
open Go.Eng
set_option linter.unusedSimpArgs false
set_option linter.unusedVariables false

theorem fits_rets {w : World} {n m : Nat} (hn : n < 18446744073709551616) (hm : m ≤ 64) : Rets Try.prog 63 [.int .u64 (n : Int), .int .i64 (m : Int)] w fun v w' => v = .bool (decide (n < 2 ^ m)) ∧ w' = w := by
  refine rets_den Try.func63 rfl (by kernel_rfl) (by kernel_rfl) [.tmp 4] (by kernel_rfl) ?_
  by_cases h : m = 64
  · subst h
    simp (disch := omega) only [go_sem, decide_true, ↓reduceIte, Nat.reduceEqDiff]
    exact ⟨by simp; omega, trivial⟩
  · simp (disch := omega) only [go_sem, ↓reduceIte, Nat.reduceEqDiff]
    refine ⟨?_, trivial⟩
    congr 1
    have e : ((n : Int) / 2 ^ m) = ((n / 2 ^ m : Nat) : Int) := by norm_cast
    rw [e]
    have hp : 0 < 2 ^ m := Nat.two_pow_pos m
    have h1 : (((n / 2 ^ m : Nat) : Int) = 0) ↔ n < 2 ^ m := by
      rw [show (((n / 2 ^ m : Nat) : Int) = 0) ↔ n / 2 ^ m = 0 by omega, Nat.div_eq_zero_iff]
      omega
    simp only [h1]

/-- The bits of a number, the greatest first. -/
def numBits (n m : Nat) : List Bool := (List.range m).map fun i => decide (n / 2 ^ (m - 1 - i) % 2 = 1)
theorem numBits_len (n m : Nat) : (numBits n m).length = m := by simp [numBits]
def numTo (n m i : Nat) : List Bool := (List.range i).map fun i => decide (n / 2 ^ (m - 1 - i) % 2 = 1)
theorem numTo_succ (n m i : Nat) : numTo n m (i + 1) = numTo n m i ++ [decide (n / 2 ^ (m - 1 - i) % 2 = 1)] := by unfold numTo; rw [List.range_succ, List.map_append]; rfl

set_option maxRecDepth 100000 in
theorem num_rets {w : World} {b n : Nat} {v : Value} {L : List Bool} {m : Int} (h : Wr w b v L) (hl : L.length < 1000000000) (hn : n < 18446744073709551616) :
    Rets Try.prog 16 [.pointer (some ⟨b, 0, none⟩), .int .u64 (n : Int), .int .i64 m] w fun u w' =>
      ((0 ≤ m ∧ m ≤ 64 ∧ n < 2 ^ m.toNat) ∧ u = .int .i64 0 ∧ ∃ v', Wr w' b v' (L ++ numBits n m.toNat) ∧ Ext (b :: fpv v) w w' ∧ ∀ q ∈ fpv v', q ∈ fpv v ∨ w.heap.size ≤ q) ∨
      (¬ (0 ≤ m ∧ m ≤ 64 ∧ n < 2 ^ m.toNat) ∧ u = .int .i64 2 ∧ w' = w) := by
  refine rets_den Try.func16 rfl (by kernel_rfl) (by kernel_rfl) [.tmp 6] (by kernel_rfl) ?_
  simp (disch := omega) only [go_sem, ↓reduceIte, Nat.reduceEqDiff]
  refine cllK_of Try.call62 good_rets ?_
  rintro u w1 ⟨rfl, hw1⟩
  subst w1
  by_cases hg : 0 ≤ m ∧ m ≤ 64
  · obtain ⟨M, rfl⟩ : ∃ M : Nat, m = (M : Int) := ⟨m.toNat, by omega⟩
    have hM : M ≤ 64 := by omega
    rw [decide_eq_true hg]
    simp (disch := omega) only [go_sem, Bool.not_true, ↓reduceIte, Nat.reduceEqDiff]
    refine cllK_of Try.call63 (fits_rets hn hM) ?_
    rintro u w1 ⟨rfl, hw1⟩
    subst w1
    by_cases hf : n < 2 ^ M
    · rw [decide_eq_true hf]
      simp (disch := omega) only [go_sem, Bool.not_true, ↓reduceIte, Nat.reduceEqDiff]
      refine LoopK_of (X := Nat × Value) (st := fun x => [(0, .pointer (some ⟨b, 0, none⟩)), (1, .int .u64 (n : Int)), (2, .int .i64 (M : Int)), (17, .int .i64 (M : Int)), (18, .int .i64 x.1)])
        (inv := fun x w' => x.1 ≤ M ∧ Wr w' b x.2 (L ++ numTo n M x.1) ∧ Ext (b :: fpv v) w w' ∧ ∀ q ∈ fpv x.2, q ∈ fpv v ∨ w.heap.size ≤ q) (m := fun x => M - x.1) (0, v)
        (sub_cons rfl rfl (sub_cons rfl rfl (sub_cons rfl rfl (sub_cons rfl rfl (sub_cons rfl rfl (sub_nil _)))))) ⟨Nat.zero_le _, by simpa [numTo] using h, Ext.refl _ _, fun q hq => .inl hq⟩ ?_
      rintro ⟨i, v1⟩ w1 ⟨hi, hw, he, hF⟩
      simp only at hi hw he hF ⊢
      by_cases hiM : i < M
      · simp (disch := omega) only [go_sem, ↓reduceIte, Nat.reduceEqDiff]
        have hbit : decide ((n : Int) / 2 ^ ((M : Int) - 1 - (i : Int)).toNat % 2 = 1) = decide (n / 2 ^ (M - 1 - i) % 2 = 1) := by
          have e : ((n : Int) / 2 ^ ((M : Int) - 1 - (i : Int)).toNat % 2) = ((n / 2 ^ (M - 1 - i) % 2 : Nat) : Int) := by
            rw [show ((M : Int) - 1 - (i : Int)).toNat = M - 1 - i by omega]
            norm_cast
          rw [e]
          congr 1
          exact propext (by omega)
        rw [hbit]
        refine cllK_of Try.call44 (bit_rets hw (by simp [numTo]; omega)) ?_
        rintro u w2 ⟨v2, hw2, he2, hF2⟩
        simp (disch := omega) only [go_sem, ↓reduceIte, Nat.reduceEqDiff]
        have E2 : Ext (b :: fpv v) w w2 := he.trans he2 (fun q hq => by
          rcases List.mem_cons.1 hq with h1 | h1
          · exact .inl (by simp [h1])
          · exact (hF q h1).imp (fun h => List.mem_cons_of_mem _ h) id)
        have hsz := he.size
        refine NextK_of (i + 1, v2) (sub_cons rfl rfl (sub_cons rfl rfl (sub_cons rfl rfl (sub_cons rfl rfl (sub_cons rfl (int_eq (by omega)) (sub_nil _)))))) ⟨by simp only; omega, ?_, E2, fun q hq => ?_⟩ (by simp only; omega)
        · simp only
          rw [numTo_succ, ← List.append_assoc]
          exact hw2
        · rcases hF2 q hq with h1 | h1
          · exact hF q h1
          · exact .inr (by omega)
      · simp (disch := omega) only [go_sem, ↓reduceIte, Nat.reduceEqDiff]
        obtain rfl : i = M := by omega
        exact .inl ⟨⟨by omega, by omega, by simpa using hf⟩, trivial, v1, by simpa [numBits, numTo] using hw, he, hF⟩
    · rw [decide_eq_false hf]
      simp (disch := omega) only [go_sem, Bool.not_false, ↓reduceIte, Nat.reduceEqDiff]
      exact .inr ⟨fun h => hf (by simpa using h.2.2), trivial, trivial⟩
  · rw [decide_eq_false hg]
    simp (disch := omega) only [go_sem, Bool.not_false, ↓reduceIte, Nat.reduceEqDiff]
    exact .inr ⟨fun h => hg ⟨h.1, h.2.1⟩, trivial, trivial⟩
end Go.Proofs.Ythbcfjlalmhabaa
