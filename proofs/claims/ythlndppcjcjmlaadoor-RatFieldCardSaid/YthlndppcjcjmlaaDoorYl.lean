import Derived.Test.YthlndppcjcjmlaaDoorFw
import Derived.Test.YthlndppcjcjmlaaDoorRc
import Derived.Test.YthlndppcjcjmlaaDoorD3
import Derived.Test.YthlndppcjcjmlaaDoorN1
/-! Law 5: what came in. -/
namespace Go.Proofs.YthlndppcjcjmlaaDoor
open Go.Eng Go.Vx
set_option linter.unusedSimpArgs false
set_option linter.unusedVariables false
set_option maxRecDepth 100000
/-- Words that came in. -/
theorem ws_nat {l : List Int} (h : ∀ x ∈ l, 0 ≤ x ∧ x ≤ 18446744073709551615) : ∃ W : List Nat, l = nl W ∧ ∀ d ∈ W, d < 18446744073709551616 := by
  refine ⟨l.map Int.toNat, ?_, fun d hd => ?_⟩
  · unfold nl
    rw [List.map_map]
    conv => lhs; rw [← List.map_id l]
    exact List.map_congr_left fun x hx => by have := h x hx; simp; omega
  · obtain ⟨x, hx, rfl⟩ := List.mem_map.1 hd
    have := h x hx
    omega
theorem few_of {W : List Nat} {k : Nat} (hW : ∀ d ∈ W, d < 18446744073709551616) (hl : W.length ≤ 9223372036854775807) (hk : k ≤ 1000) : Fn1 Tryd.prog 27 [.row 1 ((nl W).map (ie .u64)), .lit (.int .i64 (k : Int))] [] (.row 1 ((nl (W.take k)).map (ie .u64))) [] ∧
    (∀ d ∈ W.take k, d < 18446744073709551616) ∧ (W.take k).length ≤ k := by
  have h := few5_fn (W := nl W) (n := k) (by rw [nl_len]; exact hl) (by omega)
  rw [nl_takeR] at h
  exact ⟨h, fun d hd => hW d (List.mem_of_mem_take hd), by rw [List.length_take]; omega⟩
theorem val_len {W : List Nat} {k : Nat} (hW : ∀ d ∈ W, d < 18446744073709551616) (hk : W.length ≤ k) : (wg (valB 18446744073709551616 W)).length ≤ k :=
  wg_len (Nat.lt_of_lt_of_le (valB_lt hW) (Nat.pow_le_pow_right (by decide) hk))
theorem cmpI_eq (a : Nat) : cmpI a a = 0 := by unfold cmpI; rw [if_neg (by omega), if_neg (by omega)]
theorem dadd_len {a b k : Nat} (ha : (dg a).length ≤ k) (hb : (dg b).length ≤ k) : (dg (a + b)).length ≤ k + 1 := dgB_len_add (B := 10000) (by decide) ha hb
end Go.Proofs.YthlndppcjcjmlaaDoor
