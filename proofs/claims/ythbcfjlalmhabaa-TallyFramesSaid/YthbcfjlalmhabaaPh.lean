import Derived.Test.YthbcfjlalmhabaaE7
/-! Numbers of one width in words: plain facts. -/
namespace Go.Proofs.Ythbcfjlalmhabaa
open Go.Eng
set_option linter.unusedSimpArgs false
set_option linter.unusedVariables false
/-- Numbers of w bits as one number, the first lowest. -/
def packN (w : Nat) : List Nat → Nat
  | [] => 0
  | x :: l => x + 2 ^ w * packN w l
/-- A number's words of 64 bits, the lowest first. -/
def words (m X : Nat) : List Int := (List.range m).map fun k => ((X / 2 ^ (64 * k) % 2 ^ 64 : Nat) : Int)
theorem words_len (m X : Nat) : (words m X).length = m := by simp [words]
theorem packN_bit {w : Nat} (hw : 0 < w) : ∀ (l : List Nat) (j : Nat), (∀ x ∈ l, x < 2 ^ w) → (packN w l).testBit j = (l.getD (j / w) 0).testBit (j % w)
  | [], j, _ => by simp [packN]
  | x :: l, j, h => by
    have hx := h x (by simp)
    have ih := packN_bit hw l (j - w) (fun y hy => h y (by simp [hy]))
    show (x + 2 ^ w * packN w l).testBit j = _
    rw [Nat.add_comm, Nat.testBit_two_pow_mul_add _ hx]
    by_cases hj : j < w
    · rw [if_pos hj, Nat.div_eq_of_lt hj, Nat.mod_eq_of_lt hj]; rfl
    · rw [if_neg hj, ih]
      have e1 : j / w = (j - w) / w + 1 := by rw [Nat.div_eq_sub_div hw (by omega)]
      have e2 : j % w = (j - w) % w := by rw [Nat.mod_eq_sub_mod (by omega)]
      rw [e1, e2, List.getD_cons_succ]
def wordOf (X k : Nat) : Nat := X / 2 ^ (64 * k) % 2 ^ 64
theorem wordOf_bit (X k t : Nat) : (wordOf X k).testBit t = (decide (t < 64) && X.testBit (64 * k + t)) := by
  unfold wordOf
  rw [Nat.testBit_mod_two_pow, Nat.testBit_div_two_pow, Nat.add_comm]
theorem getW (X k b w : Nat) (hb : b < 64) (hw : w ≤ 32) :
    (wordOf X k / 2 ^ b ||| (if 64 < b + w then wordOf X (k + 1) * 2 ^ (64 - b) % 2 ^ 64 else 0)) % 2 ^ w = X / 2 ^ (64 * k + b) % 2 ^ w := by
  apply Nat.eq_of_testBit_eq
  intro j
  rw [Nat.testBit_mod_two_pow, Nat.testBit_mod_two_pow, Nat.testBit_or, Nat.testBit_div_two_pow, Nat.testBit_div_two_pow, wordOf_bit]
  by_cases hj : j < w
  · simp only [hj, decide_true, Bool.true_and]
    by_cases h1 : j + b < 64
    · rw [show 64 * k + (j + b) = j + (64 * k + b) by omega]
      simp only [h1, decide_true, Bool.true_and]
      split
      · rw [Nat.testBit_mod_two_pow, Nat.testBit_mul_two_pow]
        have : ¬ (64 - b ≤ j) := by omega
        simp [this]
      · simp
    · rw [if_pos (by omega), Nat.testBit_mod_two_pow, Nat.testBit_mul_two_pow, wordOf_bit]
      have h2 : j < 64 := by omega
      have h3 : 64 - b ≤ j := by omega
      have h4 : j - (64 - b) < 64 := by omega
      rw [show 64 * (k + 1) + (j - (64 - b)) = j + (64 * k + b) by omega]
      simp [h1, h2, h3, h4]
  · simp [hj]
/-- Y is X but for w bits from p on, which are those of n. -/
def SetBits (X Y p w n : Nat) : Prop := ∀ j, Y.testBit j = if p ≤ j ∧ j < p + w then n.testBit (j - p) else X.testBit j
theorem packN_set {w i n : Nat} {l : List Nat} (hw : 0 < w) (hi : i < l.length) (hl : ∀ x ∈ l, x < 2 ^ w) (hn : n < 2 ^ w) : SetBits (packN w l) (packN w (l.set i n)) (i * w) w n := by
  intro j
  have hl' : ∀ x ∈ l.set i n, x < 2 ^ w := fun x hx => by
    rcases List.mem_or_eq_of_mem_set hx with h | h
    · exact hl x h
    · rw [h]; exact hn
  rw [packN_bit hw _ _ hl', packN_bit hw _ _ hl]
  by_cases hj : j / w = i
  · have h1 : i * w ≤ j ∧ j < i * w + w := by
      subst hj
      have a1 := Nat.div_add_mod j w
      have a2 := Nat.mod_lt j hw
      rw [Nat.mul_comm] at a1
      omega
    rw [if_pos h1, hj]
    have e : (l.set i n).getD i 0 = n := by simp [List.getD_eq_getElem?_getD, hi]
    rw [e]
    congr 1
    have a1 := Nat.div_add_mod j w
    rw [hj, Nat.mul_comm] at a1
    omega
  · have h1 : ¬ (i * w ≤ j ∧ j < i * w + w) := by
      rintro ⟨h1, h2⟩
      apply hj
      have a1 := (Nat.le_div_iff_mul_le hw).2 h1
      have a2 := (Nat.div_lt_iff_lt_mul hw).2 (show j < (i + 1) * w by rw [Nat.add_mul]; omega)
      omega
    rw [if_neg h1]
    have e : (l.set i n).getD (j / w) 0 = l.getD (j / w) 0 := by
      simp only [List.getD_eq_getElem?_getD]
      rw [List.getElem?_set_ne (by omega)]
    rw [e]
theorem setW0 {X Y k b w n : Nat} (hS : SetBits X Y (64 * k + b) w n) (hb : b < 64) (hn : n < 2 ^ w) :
    ((wordOf X k ^^^ (wordOf X k &&& ((2 ^ w - 1) * 2 ^ b % 2 ^ 64))) ||| (n * 2 ^ b % 2 ^ 64)) = wordOf Y k := by
  apply Nat.eq_of_testBit_eq
  intro t
  rw [Nat.testBit_or, Nat.testBit_xor, Nat.testBit_and, Nat.testBit_mod_two_pow, Nat.testBit_mod_two_pow, Nat.testBit_mul_two_pow, Nat.testBit_mul_two_pow, Nat.testBit_two_pow_sub_one, wordOf_bit, wordOf_bit, hS]
  by_cases ht : t < 64
  · simp only [ht, decide_true, Bool.true_and]
    by_cases h1 : b ≤ t
    · have e : 64 * k + t - (64 * k + b) = t - b := by omega
      by_cases h2 : t - b < w
      · rw [if_pos (by omega), e]
        simp [h1, h2]
      · rw [if_neg (by omega)]
        have : n.testBit (t - b) = false := Nat.testBit_lt_two_pow (Nat.lt_of_lt_of_le hn (Nat.pow_le_pow_right (by decide) (by omega)))
        simp [h1, h2, this]
    · rw [if_neg (by omega)]
      simp [h1]
  · simp [ht]
theorem setW1 {X Y k b w n : Nat} (hS : SetBits X Y (64 * k + b) w n) (hb : b < 64) (hw : w ≤ 32) (hbw : 64 < b + w) (hn : n < 2 ^ w) :
    ((wordOf X (k + 1) ^^^ (wordOf X (k + 1) &&& ((2 ^ w - 1) / 2 ^ (64 - b)))) ||| (n / 2 ^ (64 - b))) = wordOf Y (k + 1) := by
  apply Nat.eq_of_testBit_eq
  intro t
  rw [Nat.testBit_or, Nat.testBit_xor, Nat.testBit_and, Nat.testBit_div_two_pow, Nat.testBit_div_two_pow, Nat.testBit_two_pow_sub_one, wordOf_bit, wordOf_bit, hS]
  by_cases ht : t < 64
  · simp only [ht, decide_true, Bool.true_and]
    by_cases h2 : t + (64 - b) < w
    · rw [if_pos (by omega), show 64 * (k + 1) + t - (64 * k + b) = t + (64 - b) by omega]
      simp [h2]
    · rw [if_neg (by omega)]
      have : n.testBit (t + (64 - b)) = false := Nat.testBit_lt_two_pow (Nat.lt_of_lt_of_le hn (Nat.pow_le_pow_right (by decide) (by omega)))
      simp [h2, this]
  · have : n.testBit (t + (64 - b)) = false := Nat.testBit_lt_two_pow (Nat.lt_of_lt_of_le hn (Nat.pow_le_pow_right (by decide) (by omega)))
    simp [ht, this]
theorem setW_other {X Y k b w n k' : Nat} (hS : SetBits X Y (64 * k + b) w n) (hb : b < 64) (hw : w ≤ 32) (h1 : k' ≠ k) (h2 : 64 < b + w → k' ≠ k + 1) : wordOf Y k' = wordOf X k' := by
  apply Nat.eq_of_testBit_eq
  intro t
  rw [wordOf_bit, wordOf_bit, hS]
  by_cases ht : t < 64
  · rw [if_neg]
    rintro ⟨a1, a2⟩
    by_cases h3 : k' = k + 1
    · have := fun h => h2 h h3
      omega
    · omega
  · simp [ht]
theorem words_zero (m : Nat) : words m 0 = List.replicate m 0 := by
  unfold words
  apply List.ext_getElem
  · simp
  · intro i h1 h2
    simp
theorem words_get {m X k : Nat} (h : k < m) : (words m X).getD k 0 = (wordOf X k : Int) := by
  unfold words
  rw [List.getD_eq_getElem?_getD, List.getElem?_map, List.getElem?_range h]
  rfl
theorem wordOf_lt (X k : Nat) : wordOf X k < 18446744073709551616 := Nat.mod_lt _ (by decide)
theorem wrap_nat (y : Nat) : IntKind.u64.wrap (y : Int) = ((y % 2 ^ 64 : Nat) : Int) := by
  unfold IntKind.wrap
  have e : IntKind.u64.bits = 64 := rfl
  have e2 : IntKind.u64.signed = false := rfl
  rw [e, e2]
  simp
theorem wrap_mul (x k : Nat) : IntKind.u64.wrap ((x : Int) * 2 ^ k) = ((x * 2 ^ k % 2 ^ 64 : Nat) : Int) := by
  rw [show ((x : Int) * 2 ^ k) = ((x * 2 ^ k : Nat) : Int) by simp, wrap_nat]
theorem div_nat (x k : Nat) : (x : Int) / 2 ^ k = ((x / 2 ^ k : Nat) : Int) := by simp
theorem mod_lt64 (y : Nat) : y % 2 ^ 64 < 18446744073709551616 := Nat.mod_lt _ (by decide)
theorem div_lt64 {y k : Nat} (h : y < 18446744073709551616) : y / 2 ^ k < 18446744073709551616 := Nat.lt_of_le_of_lt (Nat.div_le_self _ _) h
theorem or_lt64 {x y : Nat} (hx : x < 18446744073709551616) (hy : y < 18446744073709551616) : x ||| y < 18446744073709551616 := Nat.or_lt_two_pow (n := 64) hx hy
theorem and_mask {x w : Nat} (hx : x < 18446744073709551616) (hw : 2 ^ w ≤ 4294967296) : bitK .and .u64 (x : Int) ((2 ^ w - 1 : Nat) : Int) = ((x % 2 ^ w : Nat) : Int) := by
  rw [and_u64 hx (by omega), Nat.and_two_pow_sub_one_eq_mod]
end Go.Proofs.Ythbcfjlalmhabaa
