import Derived.Test.YthoknpbjoeopcaaGreatDoorFw
import Derived.Test.YthoknpbjoeopcaaGreatDoorRc
import Derived.Test.YthoknpbjoeopcaaGreatDoorD3
import Derived.Test.YthoknpbjoeopcaaGreatDoorN1
/-! Law 5: what came in. -/
namespace Go.Proofs.YthoknpbjoeopcaaGreatDoor
open Go.Eng Go.Vx
set_option linter.unusedSimpArgs false
set_option linter.unusedVariables false
set_option maxRecDepth 100000
/-- Words that came in. -/
theorem ws_nat {l : List Int} (h : ∀ x ∈ l, 0 ≤ x ∧ x ≤ 18446744073709551615) : ∃ W : List Nat, l = nl W ∧ ∀ d ∈ W, d < 18446744073709551616 := by
  refine ⟨l.map Int.toNat, ?_, fun d hd => ?_⟩
  · unfold nl
    rw [List.map_map]
    conv => lhs; rw [← List.map_id l]
    exact List.map_congr_left fun x hx => by have := h x hx; simp; omega
  · obtain ⟨x, hx, rfl⟩ := List.mem_map.1 hd
    have := h x hx
    omega
theorem few_of {W : List Nat} {k : Nat} (hW : ∀ d ∈ W, d < 18446744073709551616) (hl : W.length ≤ 9223372036854775807) (hk : k ≤ 1000) : Fn1 Tryz.prog 9 [.row 1 ((nl W).map (ie .u64)), .lit (.int .i64 (k : Int))] [] (.row 1 ((nl (W.take k)).map (ie .u64))) [] ∧
    (∀ d ∈ W.take k, d < 18446744073709551616) ∧ (W.take k).length ≤ k := by
  have h := few5_fn (W := nl W) (n := k) (by rw [nl_len]; exact hl) (by omega)
  rw [nl_takeR] at h
  exact ⟨h, fun d hd => hW d (List.mem_of_mem_take hd), by rw [List.length_take]; omega⟩
theorem val_len {W : List Nat} {k : Nat} (hW : ∀ d ∈ W, d < 18446744073709551616) (hk : W.length ≤ k) : (wg (valB 18446744073709551616 W)).length ≤ k :=
  wg_len (Nat.lt_of_lt_of_le (valB_lt hW) (Nat.pow_le_pow_right (by decide) hk))
theorem val_bl {W : List Nat} {k : Nat} (hW : ∀ d ∈ W, d < 18446744073709551616) (hk : W.length ≤ k) : bl (valB 18446744073709551616 W) ≤ 64 * k := by
  refine bl_le_of (Nat.lt_of_lt_of_le (valB_lt hW) ?_)
  rw [Nat.pow_mul]
  exact Nat.pow_le_pow_right (by decide) hk
theorem cmpI_eq (a : Nat) : cmpI a a = 0 := by unfold cmpI; rw [if_neg (by omega), if_neg (by omega)]
/-- What the two packages make of the same words. -/
theorem both_of {W : List Nat} {k : Nat} (hW : ∀ d ∈ W, d < 18446744073709551616) (hl : W.length ≤ k) (hk : k ≤ 50000) : ∃ a, Fn1 Tryz.prog 8 [.row 1 ((nl W).map (ie .u64))] [] (NV a) [] ∧
    Fn1 Tryz.prog 65 [.row 1 ((nl W).map (ie .u64))] [] (DV a) [] ∧ (wg a).length ≤ k ∧ (dg a).length ≤ 5 * k ∧ bl a ≤ 64 * k :=
  ⟨valB 18446744073709551616 W, of_fn hW (by omega), lof_fn hW (by omega), val_len hW hl, Nat.le_trans (wv_len hW) (by omega), val_bl hW hl⟩
theorem wadd_len {a b k : Nat} (ha : (wg a).length ≤ k) (hb : (wg b).length ≤ k) : (wg (a + b)).length ≤ k + 1 := dgB_len_add (B := 18446744073709551616) (by decide) ha hb
theorem wmul_len (a b : Nat) : (wg (a * b)).length ≤ (wg a).length + (wg b).length := dgB_len_mul (B := 18446744073709551616) (by decide) a b
theorem wmono_len {a b : Nat} (h : a ≤ b) : (wg a).length ≤ (wg b).length := dgB_len_mono (B := 18446744073709551616) (by decide) h
end Go.Proofs.YthoknpbjoeopcaaGreatDoor

/-! Law 5: the document's Bits and Gcd. -/
namespace Go.Proofs.YthoknpbjoeopcaaGreatDoor
open Go.Eng Go.Vx
set_option linter.unusedSimpArgs false
set_option linter.unusedVariables false
set_option maxRecDepth 100000
theorem dg_pos {b : Nat} (hb : b ≠ 0) : 0 < (dg b).length := by
  rcases Nat.eq_zero_or_pos (dg b).length with h | h
  · exfalso
    have h' : dg b = [] := List.length_eq_zero_iff.1 h
    have : valB 10000 (dg b) = b := dgB_val (by decide) b
    rw [h'] at this
    exact hb this.symm
  · exact h
end Go.Proofs.YthoknpbjoeopcaaGreatDoor
