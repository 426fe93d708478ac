import Derived.Test.YthbcfjlalmhabaaPc
import Derived.Test.YthbcfjlalmhabaaLib
/-! How many bits a number has: plain facts. -/
namespace Go.Proofs.Ythbcfjlalmhabaa
open Go.Eng
set_option linter.unusedSimpArgs false
set_option linter.unusedVariables false
/-- How many bits a number needs. -/
def bl (n : Nat) : Nat := if n = 0 then 0 else Nat.log2 n + 1
theorem bl_zero : bl 0 = 0 := rfl
theorem bl_lt (n : Nat) : n < 2 ^ bl n := by
  unfold bl
  split
  · omega
  · exact Nat.lt_log2_self
theorem bl_le {n : Nat} (h : n ≠ 0) : 2 ^ (bl n - 1) ≤ n := by
  unfold bl
  rw [if_neg h]
  exact Nat.log2_self_le h
theorem bl_pos {n : Nat} (h : n ≠ 0) : 0 < bl n := by unfold bl; rw [if_neg h]; omega
theorem bl_eq {n k : Nat} (h1 : 2 ^ k ≤ n) (h2 : n < 2 ^ (k + 1)) : bl n = k + 1 := by
  have hn : n ≠ 0 := by have := Nat.two_pow_pos k; omega
  unfold bl
  rw [if_neg hn]
  have a1 : k ≤ Nat.log2 n := (Nat.le_log2 hn).2 h1
  have a2 : Nat.log2 n < k + 1 := (Nat.log2_lt hn).2 h2
  omega
theorem bl_le_of {n k : Nat} (h : n < 2 ^ k) : bl n ≤ k := by
  by_cases hn : n = 0
  · subst hn; simp [bl]
  · have h1 := bl_le hn
    have : 2 ^ (bl n - 1) < 2 ^ k := Nat.lt_of_le_of_lt h1 h
    have := (Nat.pow_lt_pow_iff_right (show 1 < 2 by decide)).1 this
    omega
theorem bl_mono {m n : Nat} (h : m ≤ n) : bl m ≤ bl n := bl_le_of (Nat.lt_of_le_of_lt h (bl_lt n))
theorem bl_div {n k : Nat} (h : 2 ^ k ≤ n) : bl n = k + bl (n / 2 ^ k) := by
  have hp := Nat.two_pow_pos k
  have hq : n / 2 ^ k ≠ 0 := by
    intro h0
    have := (Nat.div_eq_zero_iff).1 h0
    omega
  have h1 := bl_le hq
  have h2 := bl_lt (n / 2 ^ k)
  have hb := bl_pos hq
  have e : bl n = (k + bl (n / 2 ^ k) - 1) + 1 := by
    apply bl_eq
    · rw [show k + bl (n / 2 ^ k) - 1 = (bl (n / 2 ^ k) - 1) + k by omega, Nat.pow_add]
      exact (Nat.le_div_iff_mul_le hp).1 h1
    · rw [show k + bl (n / 2 ^ k) - 1 + 1 = bl (n / 2 ^ k) + k by omega, Nat.pow_add]
      exact (Nat.div_lt_iff_lt_mul hp).1 h2
  omega
theorem bl_half {n : Nat} (h : 2 ≤ n) : bl n = bl (n / 2) + 1 := by
  have := bl_div (n := n) (k := 1) (by omega)
  rw [Nat.pow_one] at this
  omega
def gammaB (n : Nat) : List Bool := numBits 0 (bl n - 1) ++ numBits n (bl n)
def deltaB (n : Nat) : List Bool := gammaB (bl n) ++ numBits (n - 2 ^ (bl n - 1)) (bl n - 1)
def varB (n : Nat) : List Bool := if h : n < 128 then numBits n 8 else numBits (128 + n % 128) 8 ++ varB (n / 128)
termination_by n
decreasing_by omega
theorem gammaB_len {n : Nat} (h : n ≠ 0) : (gammaB n).length = 2 * bl n - 1 := by
  have := bl_pos h
  simp only [gammaB, List.length_append, numBits_len]; omega
theorem deltaB_len {n : Nat} (h : n ≠ 0) : (deltaB n).length = 2 * bl (bl n) - 1 + (bl n - 1) := by
  have := bl_pos h
  simp only [deltaB, List.length_append, numBits_len]; rw [gammaB_len (by omega)]
theorem varB_len (n : Nat) : (varB n).length = 8 * max 1 ((bl n + 6) / 7) := by
  induction n using Nat.strongRecOn with
  | ind n ih =>
    unfold varB
    by_cases h : n < 128
    · rw [dif_pos h, numBits_len]
      have := bl_le_of (n := n) (k := 7) h
      omega
    · rw [dif_neg h, List.length_append, numBits_len, ih _ (by omega)]
      have e := bl_div (n := n) (k := 7) (by omega)
      rw [show (2 : Nat) ^ 7 = 128 from rfl] at e
      have : 0 < bl (n / 128) := bl_pos (by omega)
      omega
theorem sh1_u64 {k : Nat} (h : k < 64) : IntKind.u64.wrap (1 * 2 ^ k) = ((2 ^ k : Nat) : Int) := by
  have h1 : 2 ^ k ≤ 2 ^ 63 := Nat.pow_le_pow_right (by decide) (by omega)
  unfold IntKind.wrap
  have h2 : (1 * 2 ^ k : Int) = ((2 ^ k : Nat) : Int) := by simp
  rw [h2]
  generalize 2 ^ k = x at *
  have e : IntKind.u64.bits = 64 := rfl
  have e2 : IntKind.u64.signed = false := rfl
  rw [e, e2]
  simp
  omega
theorem xor_and_top {n j : Nat} (h : bl n = j + 1) : n ^^^ (n &&& 2 ^ j) = n - 2 ^ j := by
  have hn : n ≠ 0 := by intro h0; subst h0; simp [bl] at h
  have h1 := bl_le hn
  have h2 := bl_lt n
  rw [h] at h1 h2
  simp only [Nat.add_sub_cancel] at h1
  obtain ⟨r, rfl⟩ := Nat.exists_eq_add_of_le h1
  have hr : r < 2 ^ j := by rw [Nat.pow_succ] at h2; omega
  have e := Nat.two_pow_add_eq_or_of_lt hr 1
  rw [Nat.mul_one] at e
  rw [Nat.add_sub_cancel_left, e]
  apply Nat.eq_of_testBit_eq
  intro i
  simp only [Nat.testBit_xor, Nat.testBit_and, Nat.testBit_or, Nat.testBit_two_pow]
  by_cases hi : j = i
  · subst hi
    simp [Nat.testBit_lt_two_pow hr]
  · simp [hi]
theorem andn_eq {x y : Nat} (hx : x < 18446744073709551616) (hy : y < 18446744073709551616) : bitK .andNot .u64 (x : Int) (y : Int) = ((x ^^^ (x &&& y) : Nat) : Int) := by
  have e : (BitVec.ofInt IntKind.u64.bits (x : Int) &&& ~~~ BitVec.ofInt IntKind.u64.bits (y : Int)).toNat = x ^^^ (x &&& y) := by
    have e0 : ∀ a b : BitVec IntKind.u64.bits, a &&& ~~~ b = a ^^^ (a &&& b) := by
      intro a b
      ext i hi
      simp
      cases a[i] <;> cases b[i] <;> rfl
    rw [e0, BitVec.toNat_xor, BitVec.toNat_and, BitVec.ofInt_natCast, BitVec.ofInt_natCast, BitVec.toNat_ofNat, BitVec.toNat_ofNat, show 2 ^ IntKind.u64.bits = 18446744073709551616 from rfl, Nat.mod_eq_of_lt hx, Nat.mod_eq_of_lt hy]
  show IntKind.u64.wrap ((BitVec.ofInt IntKind.u64.bits (x : Int) &&& ~~~ BitVec.ofInt IntKind.u64.bits (y : Int)).toNat : Int) = _
  rw [e]
  have h2 : x ^^^ (x &&& y) < 2 ^ 64 := Nat.xor_lt_two_pow (by simpa using hx) (Nat.and_lt_two_pow _ (by simpa using hy))
  generalize x ^^^ (x &&& y) = z at *
  unfold IntKind.wrap
  have e : IntKind.u64.bits = 64 := rfl
  have e2 : IntKind.u64.signed = false := rfl
  rw [e, e2]
  simp
  omega
theorem or_top {k n : Nat} (hk : k < 64) (h : n < 2 ^ k) : bitK .or .u64 ((2 ^ k : Nat) : Int) (n : Int) = ((2 ^ k + n : Nat) : Int) := by
  have h1 : 2 ^ k ≤ 2 ^ 63 := Nat.pow_le_pow_right (by decide) (by omega)
  rw [or_u64 (by omega) (by omega)]
  have e := Nat.two_pow_add_eq_or_of_lt h 1
  rw [Nat.mul_one] at e
  rw [e]
theorem varB_lt {n : Nat} (h : n < 128) : varB n = numBits n 8 := by unfold varB; rw [dif_pos h]
theorem varB_ge {n : Nat} (h : ¬ n < 128) : varB n = numBits (128 + n % 128) 8 ++ varB (n / 128) := by conv => lhs; unfold varB; rw [dif_neg h]
theorem or_128 (n : Nat) : bitK .or .u64 ((n : Int) % 128) 128 = ((128 + n % 128 : Nat) : Int) := by
  have h : n % 128 < 128 := Nat.mod_lt _ (by decide)
  rw [show (n : Int) % 128 = ((n % 128 : Nat) : Int) by omega]
  generalize n % 128 = r at *
  have e := or_u64 (x := r) (y := 128) (by omega) (by omega)
  rw [show ((128 : Nat) : Int) = 128 from rfl] at e
  rw [e, Nat.or_comm]
  have e := Nat.two_pow_add_eq_or_of_lt (i := 7) h 1
  rw [← e]
def bTo (L : List Bool) (j : Nat) : Nat → Nat
  | 0 => 0
  | k + 1 => 2 * bTo L j k + bAt L (8 * j + k)
theorem bTo_eight (L : List Bool) (j : Nat) : bTo L j 8 = byteV L j := by
  simp only [bTo, byteV, Nat.add_zero]
  omega
theorem bTo_le (L : List Bool) (j : Nat) : ∀ k, bTo L j k < 2 ^ k
  | 0 => by simp [bTo]
  | k + 1 => by have := bTo_le L j k; have := bAt_le L (8 * j + k); rw [Nat.pow_succ]; unfold bTo; omega
theorem pkTo_succ (L : List Bool) (j : Nat) : pkTo L (j + 1) = pkTo L j ++ [(byteV L j : Int)] := by
  unfold pkTo; rw [List.range_succ, List.map_append]; rfl
end Go.Proofs.Ythbcfjlalmhabaa
