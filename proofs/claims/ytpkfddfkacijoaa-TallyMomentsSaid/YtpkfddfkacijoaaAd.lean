import Derived.Test.YtpkfddfkacijoaaAb
import Derived.Test.YtpkfddfkacijoaaAc
namespace Go.Proofs.Ytpkfddfkacijoaa
set_option linter.unusedSimpArgs false
set_option linter.unusedVariables false
def ownA (K : Int) (P : Nat) : Prop := K = 2 ∧ P = 0 ∨ K = 1 ∧ 1 ≤ P ∧ P ≤ 4
def convOk (K : Int) (P : Nat) : Bool := (List.range 16).all fun r => r == 0 || decide (2 * gN K P r ≤ gN K P (r + 1) + gN K P (r - 1) ∧ gN K P (r - 1) ≤ gN K P r)
theorem convOks : (convOk 2 0 && convOk 1 1 && convOk 1 2 && convOk 1 3 && convOk 1 4) = true := by decide +kernel
theorem gN_conv {K : Int} {P r : Nat} (h : ownA K P) (h1 : 1 ≤ r) (h2 : r ≤ 15) : 2 * gN K P r ≤ gN K P (r + 1) + gN K P (r - 1) ∧ gN K P (r - 1) ≤ gN K P r := by
  have h3 := convOks
  simp only [Bool.and_eq_true] at h3
  obtain ⟨⟨⟨⟨a, b⟩, c⟩, d⟩, e⟩ := h3
  have key : convOk K P = true := by
    rcases h with ⟨rfl, rfl⟩ | ⟨rfl, h4, h5⟩
    · exact a
    · have : P = 1 ∨ P = 2 ∨ P = 3 ∨ P = 4 := by omega
      rcases this with rfl | rfl | rfl | rfl
      · exact b
      · exact c
      · exact d
      · exact e
  have h4 := List.all_eq_true.1 key r (List.mem_range.2 (by omega))
  simp only [Bool.or_eq_true, beq_iff_eq, decide_eq_true_eq] at h4
  rcases h4 with h4 | h4
  · omega
  · exact h4
theorem ofN_sub {a b c d : Nat} (h : a + d ≤ c + b) : (((a : Nat) : Int) : Rat) - (((b : Nat) : Int) : Rat) ≤ (((c : Nat) : Int) : Rat) - (((d : Nat) : Int) : Rat) := by
  have : ((((a + d : Nat) : Int)) : Rat) ≤ (((c + b : Nat) : Int) : Rat) := Rat.intCast_le_intCast.2 (by omega)
  have e1 : ((((a + d : Nat) : Int)) : Rat) = (((a : Nat) : Int) : Rat) + (((d : Nat) : Int) : Rat) := by simp
  have e2 : ((((c + b : Nat) : Int)) : Rat) = (((c : Nat) : Int) : Rat) + (((b : Nat) : Int) : Rat) := by simp
  grind
theorem dG_step {K : Int} {P r : Nat} (h : ownA K P) (h1 : 1 ≤ r) (h2 : r ≤ 15) : dG K P r ≤ dG K P (r + 1) := by
  unfold dG
  rw [Nat.add_sub_cancel]
  exact ofN_sub (by have := (gN_conv h h1 h2).1; omega)
theorem dG_mono {K : Int} {P r : Nat} (h : ownA K P) (h1 : 1 ≤ r) : ∀ {n : Nat}, r ≤ n → n ≤ 16 → dG K P r ≤ dG K P n := by
  intro n hn h2
  obtain ⟨j, rfl⟩ : ∃ j, n = r + j := ⟨n - r, by omega⟩
  induction j with
  | zero => exact Rat.le_refl
  | succ j ih => exact Rat.le_trans (ih (by omega) (by omega)) (dG_step h (by omega) (by omega))
theorem dG_nonneg {K : Int} {P r : Nat} (h : ownA K P) (h2 : r ≤ 15) : 0 ≤ dG K P r := by
  unfold dG
  rcases Nat.eq_zero_or_pos r with h1 | h1
  · subst h1
    rw [Nat.zero_sub]
    grind
  · have := ofN_sub (a := gN K P (r - 1)) (b := gN K P (r - 1)) (c := gN K P r) (d := gN K P (r - 1)) (by have := (gN_conv h h1 h2).2; omega)
    have e : (((gN K P (r - 1) : Nat) : Int) : Rat) - (((gN K P (r - 1) : Nat) : Int) : Rat) = 0 := by grind
    rw [e] at this
    exact this
theorem unit_pos : (0 : Rat) < ((268435456 : Int) : Rat) := Rat.intCast_pos.2 (by decide)
theorem dGe_mono {K : Int} {P r : Nat} (h : ownA K P) (h1 : 1 ≤ r) {n : Nat} (hn : r ≤ n) (h2 : n ≤ 16) : dGe K P r ≤ dGe K P n := by
  unfold dGe
  have := dG_mono h h1 hn h2
  split
  · rw [Rat.div_def, Rat.div_def]
    exact Rat.mul_le_mul_of_nonneg_right this (Rat.le_of_lt (Rat.inv_pos.2 unit_pos))
  · exact this
theorem dGe_nonneg {K : Int} {P r : Nat} (h : ownA K P) (h2 : r ≤ 15) : 0 ≤ dGe K P r := by
  unfold dGe
  have := dG_nonneg h h2
  split
  · rw [Rat.div_def]
    exact Rat.mul_nonneg this (Rat.le_of_lt (Rat.inv_pos.2 unit_pos))
  · exact this
theorem dGe_zero {K : Int} {P : Nat} : dGe K P 0 = 0 := by
  unfold dGe dG
  rw [Nat.zero_sub]
  split
  · grind
  · grind
def gE (K : Int) (P N : Nat) : Rat := if K = 2 then (((gN K P N : Nat) : Int) : Rat) / ((268435456 : Int) : Rat) else (((gN K P N : Nat) : Int) : Rat)
theorem gE_diff {K : Int} {P r : Nat} : gE K P r - gE K P (r - 1) = dGe K P r := by
  unfold gE dGe dG
  split
  · grind
  · rfl
theorem gE_zero {K : Int} {P : Nat} (h : ownA K P) : gE K P 0 = 0 := by
  unfold gE
  rw [gN_zero (by rcases h with h | h; exact .inl h.1; exact .inr h.2.1)]
  split
  · grind
  · rfl
theorem est_in {K : Int} {P n r : Nat} (h : ownA K P) (hn : 1 ≤ n) (h15 : n ≤ 15) (hr : r ≤ n) : inB (vn n * dGe K P n) (vn n * (gE K P r - gE K P (r - 1))) := by
  rw [gE_diff]
  have h0 := vn_nonneg n
  refine ⟨Rat.mul_nonneg h0 (dGe_nonneg h (by omega)), ?_⟩
  rcases Nat.eq_zero_or_pos r with h1 | h1
  · rw [h1, dGe_zero]
    have := Rat.mul_nonneg h0 (dGe_nonneg (K := K) (P := P) (r := n) h (by omega))
    grind
  · exact Rat.mul_le_mul_of_nonneg_left (dGe_mono h h1 hr (by omega)) h0
end Go.Proofs.Ytpkfddfkacijoaa
