import Derived.Test.YtfemchdaoihogaaNa
import Derived.Test.YtfemchdaoihogaaE7
/-! Bits of numbers, and their highest word (plain facts). -/
namespace Go.Proofs.Ytfemchdaoihogaa
open Go.Eng
set_option linter.unusedSimpArgs false
set_option linter.unusedVariables false
set_option maxRecDepth 100000
theorem bl_unique {n k : Nat} (h1 : 2 ^ (k - 1) ≤ n) (h2 : n < 2 ^ k) (hk : 0 < k) : bl n = k := by
  have h3 := bl_lt n
  have hn : n ≠ 0 := by have : 0 < 2 ^ (k - 1) := Nat.pow_pos (by decide); omega
  have h4 := bl_le (n := n) hn
  have h5 : k - 1 < bl n := (Nat.pow_lt_pow_iff_right (a := 2) (by decide)).1 (Nat.lt_of_le_of_lt h1 h3)
  have h6 : bl n - 1 < k := (Nat.pow_lt_pow_iff_right (a := 2) (by decide)).1 (Nat.lt_of_le_of_lt h4 h2)
  omega
/-- The highest word tells the bits. -/
theorem wg_top {n : Nat} (hn : n ≠ 0) : 0 < (wg n).length ∧ (wg n).getD ((wg n).length - 1) 0 < 18446744073709551616 ∧ bl n = 64 * ((wg n).length - 1) + bl ((wg n).getD ((wg n).length - 1) 0) := by
  have hne : wg n ≠ [] := fun e => hn (wg_nil.1 e)
  have hl : 0 < (wg n).length := List.length_pos_iff.2 hne
  have hlast := dgB_last (B := 18446744073709551616) (by decide) n hne
  have hget : (wg n).getD ((wg n).length - 1) 0 = (wg n).getLast hne := by
    rw [List.getLast_eq_getElem, List.getD_eq_getElem?_getD, List.getElem?_eq_getElem (by omega)]
    rfl
  have ht : (wg n).getD ((wg n).length - 1) 0 ≠ 0 := by rw [hget]; exact hlast
  have htl := getD_ltB (by decide) (wg_lt n) ((wg n).length - 1)
  refine ⟨hl, htl, ?_⟩
  generalize hm : (wg n).length - 1 = m at *
  have hlen : (wg n).length = m + 1 := by omega
  have hv : n = valB 18446744073709551616 ((wg n).take m) + 18446744073709551616 ^ m * (wg n).getD m 0 := by
    have := valB_take' (B := 18446744073709551616) (wg n) m
    rw [List.take_of_length_le (show (wg n).length ≤ m + 1 by omega), wg_val] at this
    exact this
  have hlow : valB 18446744073709551616 ((wg n).take m) < 18446744073709551616 ^ m := by
    have := valB_lt (B := 18446744073709551616) (l := (wg n).take m) (fun d hd => wg_lt n d (List.mem_of_mem_take hd))
    rwa [List.length_take, Nat.min_eq_left (by omega)] at this
  generalize (wg n).getD m 0 = t at *
  generalize valB 18446744073709551616 ((wg n).take m) = v at *
  have hp : 18446744073709551616 ^ m = 2 ^ (64 * m) := by rw [Nat.pow_mul]
  rw [hp] at hv hlow
  have hb1 := bl_lt t
  have hb2 := bl_le (n := t) ht
  have hb3 := bl_pos (n := t) ht
  refine bl_unique ?_ ?_ (by omega)
  · rw [show 64 * m + bl t - 1 = 64 * m + (bl t - 1) by omega, Nat.pow_add]
    have := Nat.mul_le_mul_left (2 ^ (64 * m)) hb2
    omega
  · rw [Nat.pow_add]
    have : 2 ^ (64 * m) * (t + 1) ≤ 2 ^ (64 * m) * 2 ^ bl t := Nat.mul_le_mul_left _ hb1
    rw [Nat.mul_add, Nat.mul_one] at this
    omega
theorem bl_mul_le (a b : Nat) : bl (a * b) ≤ bl a + bl b := by
  rcases Nat.eq_zero_or_pos (a * b) with h | h
  · rw [h, bl_zero]; omega
  · have h1 := bl_le (n := a * b) (by omega)
    have h2 : a * b < 2 ^ (bl a + bl b) := by rw [Nat.pow_add]; exact Nat.mul_lt_mul'' (bl_lt a) (bl_lt b)
    have := (Nat.pow_lt_pow_iff_right (a := 2) (by decide)).1 (Nat.lt_of_le_of_lt h1 h2)
    omega
theorem wg_bl {n k : Nat} (h : bl n ≤ 64 * k) : (wg n).length ≤ k := by
  refine wg_len (Nat.lt_of_lt_of_le (bl_lt n) ?_)
  rw [show (18446744073709551616 : Nat) = 2 ^ 64 from rfl, ← Nat.pow_mul]
  exact Nat.pow_le_pow_right (by decide) h
theorem pow_bl_le (a n : Nat) : bl (a ^ n) ≤ bl a * n + 1 := by
  rcases Nat.eq_zero_or_pos (a ^ n) with h | h
  · rw [h, bl_zero]; omega
  · have h1 := bl_le (n := a ^ n) (by omega)
    have h2 : a ^ n < 2 ^ (bl a * n + 1) := by
      rw [Nat.pow_succ, Nat.pow_mul]
      have := Nat.pow_le_pow_left (Nat.le_of_lt (bl_lt a)) n
      have h3 : 0 < (2 ^ bl a) ^ n := Nat.pow_pos (Nat.pow_pos (by decide))
      omega
    have := (Nat.pow_lt_pow_iff_right (a := 2) (by decide)).1 (Nat.lt_of_le_of_lt h1 h2)
    omega
end Go.Proofs.Ytfemchdaoihogaa
