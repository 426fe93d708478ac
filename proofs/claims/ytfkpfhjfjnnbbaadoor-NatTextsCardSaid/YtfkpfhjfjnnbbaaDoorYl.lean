import Derived.Test.YtfkpfhjfjnnbbaaDoorYj
/-! Law 5: what came in. -/
namespace Go.Proofs.YtfkpfhjfjnnbbaaDoor
open Go.Eng Go.Vx
set_option linter.unusedSimpArgs false
set_option linter.unusedVariables false
set_option maxRecDepth 100000
theorem bl_add_le (a b : Nat) : bl (a + b) ≤ max (bl a) (bl b) + 1 := by
  refine bl_le_of ?_
  have h1 := bl_lt a
  have h2 := bl_lt b
  have h3 : 2 ^ bl a ≤ 2 ^ max (bl a) (bl b) := Nat.pow_le_pow_right (by decide) (by omega)
  have h4 : 2 ^ bl b ≤ 2 ^ max (bl a) (bl b) := Nat.pow_le_pow_right (by decide) (by omega)
  rw [Nat.pow_succ]
  omega
/-- Words that came in. -/
theorem ws_nat {l : List Int} (h : ∀ x ∈ l, 0 ≤ x ∧ x ≤ 18446744073709551615) : ∃ W : List Nat, l = nl W ∧ ∀ d ∈ W, d < 18446744073709551616 := by
  refine ⟨l.map Int.toNat, ?_, fun d hd => ?_⟩
  · unfold nl
    rw [List.map_map]
    conv => lhs; rw [← List.map_id l]
    exact List.map_congr_left fun x hx => by have := h x hx; simp; omega
  · obtain ⟨x, hx, rfl⟩ := List.mem_map.1 hd
    have := h x hx
    omega
theorem few_of {W : List Nat} {k : Nat} (hW : ∀ d ∈ W, d < 18446744073709551616) (hl : W.length ≤ 9223372036854775807) (hk : k ≤ 1000) : Fn1 Tryd.prog 14 [.row 1 ((nl W).map (ie .u64)), .lit (.int .i64 (k : Int))] [] (.row 1 ((nl (W.take k)).map (ie .u64))) [] ∧
    (∀ d ∈ W.take k, d < 18446744073709551616) ∧ (W.take k).length ≤ k := by
  have h := few5_fn (W := nl W) (n := k) (by rw [nl_len]; exact hl) (by omega)
  rw [nl_takeR] at h
  exact ⟨h, fun d hd => hW d (List.mem_of_mem_take hd), by rw [List.length_take]; omega⟩
theorem val_len {W : List Nat} {k : Nat} (hW : ∀ d ∈ W, d < 18446744073709551616) (hk : W.length ≤ k) : (wg (valB 18446744073709551616 W)).length ≤ k :=
  wg_len (Nat.lt_of_lt_of_le (valB_lt hW) (Nat.pow_le_pow_right (by decide) hk))
theorem val_bl {W : List Nat} {k : Nat} (hW : ∀ d ∈ W, d < 18446744073709551616) (hk : W.length ≤ k) : bl (valB 18446744073709551616 W) ≤ 64 * k := by
  refine bl_le_of (Nat.lt_of_lt_of_le (valB_lt hW) ?_)
  rw [Nat.pow_mul]
  exact Nat.pow_le_pow_right (by decide) hk
theorem cmpI_lt {a b : Nat} (h : a < b) : cmpI a b = -1 := if_pos h
theorem cmpI_gt {a b : Nat} (h : b < a) : cmpI a b = 1 := by unfold cmpI; rw [if_neg (by omega), if_pos h]
theorem cmpI_eq (a : Nat) : cmpI a a = 0 := by unfold cmpI; rw [if_neg (by omega), if_neg (by omega)]
/-- What the two packages make of the same words. -/
theorem both_of {W : List Nat} {k : Nat} (hW : ∀ d ∈ W, d < 18446744073709551616) (hl : W.length ≤ k) (hk : k ≤ 50000) : ∃ a, Fn1 Tryd.prog 15 [.row 1 ((nl W).map (ie .u64))] [] (NV a) [] ∧
    Fn1 Tryd.prog 16 [.row 1 ((nl W).map (ie .u64))] [] (DV a) [] ∧ (wg a).length ≤ k ∧ (dg a).length ≤ 5 * k ∧ bl a ≤ 64 * k :=
  ⟨valB 18446744073709551616 W, of_fn hW (by omega), lof_fn hW (by omega), val_len hW hl, Nat.le_trans (wv_len hW) (by omega), val_bl hW hl⟩
theorem wadd_len {a b k : Nat} (ha : (wg a).length ≤ k) (hb : (wg b).length ≤ k) : (wg (a + b)).length ≤ k + 1 := dgB_len_add (B := 18446744073709551616) (by decide) ha hb
theorem dadd_len {a b k : Nat} (ha : (dg a).length ≤ k) (hb : (dg b).length ≤ k) : (dg (a + b)).length ≤ k + 1 := dgB_len_add (B := 10000) (by decide) ha hb
theorem wmul_len (a b : Nat) : (wg (a * b)).length ≤ (wg a).length + (wg b).length := dgB_len_mul (B := 18446744073709551616) (by decide) a b
theorem wmono_len {a b : Nat} (h : a ≤ b) : (wg a).length ≤ (wg b).length := dgB_len_mono (B := 18446744073709551616) (by decide) h
end Go.Proofs.YtfkpfhjfjnnbbaaDoor
