import Derived.Test.YtfkpfhjfjnnbbaaDoorYw
import Derived.Test.YtfkpfhjfjnnbbaaDoorYl
/-! NatTexts. -/
namespace Go.Proofs.YtfkpfhjfjnnbbaaDoor
open Go.Eng Go.Vx
set_option linter.unusedSimpArgs false
set_option linter.unusedVariables false
set_option maxRecDepth 100000
theorem dig_byte {d : Nat} (h : d < 10) : (UInt8.ofNat (48 + d)).toNat = 48 + d := by
  rw [UInt8.toNat_ofNat']
  exact Nat.mod_eq_of_lt (by omega)
theorem dec_valD : ∀ (k : Nat) (s : List UInt8), s.length = k → s.all isD = true → decB (decL k (valD s)) = s := by
  intro k
  induction k with
  | zero => intro s hs _; rw [List.length_eq_zero_iff.1 hs]; rfl
  | succ k ih =>
    intro s hs ha
    have hne : s ≠ [] := fun e => by rw [e] at hs; simp at hs
    have e := List.dropLast_concat_getLast hne
    have hal := List.all_eq_true.1 ha
    have h1 := ih s.dropLast (by simp [hs]) (List.all_eq_true.2 fun b hb => hal b (List.dropLast_subset s hb))
    have h2 := of_decide_eq_true (hal (s.getLast hne) (List.getLast_mem hne))
    generalize s.getLast hne = b at *
    generalize s.dropLast = t at *
    subst e
    rw [valD_snoc]
    show decB (decL k ((valD t * 10 + (b.toNat - 48)) / 10) ++ [(valD t * 10 + (b.toNat - 48)) % 10]) = _
    rw [show (valD t * 10 + (b.toNat - 48)) / 10 = valD t by omega, show (valD t * 10 + (b.toNat - 48)) % 10 = b.toNat - 48 by omega, decB_app, h1]
    congr 1
    show [UInt8.ofNat (48 + (b.toNat - 48))] = [b]
    rw [show 48 + (b.toNat - 48) = b.toNat by omega, UInt8.ofNat_toNat]
theorem decS_valD {s : List UInt8} (h : okT s) : decS (valD s) = s := by
  obtain ⟨h0, h1, ha⟩ := h
  have hal := List.all_eq_true.1 ha
  have hlt := valD_lt (s := s) hal
  have hl0 : s.length ≠ 0 := fun e => h0 (List.length_eq_zero_iff.1 e)
  have hk : nd10 (valD s) = s.length := by
    refine nd10_eq (by omega) hlt ?_
    by_cases h : s.length = 1
    · exact .inr h
    · left
      match s, h0, h1, hal, h with
      | b :: t, _, h1, hal, h =>
        have hb := of_decide_eq_true (hal b (by simp))
        have hb2 : b.toNat ≠ 48 := fun e => h1 ⟨Nat.lt_of_le_of_ne (Nat.succ_le_of_lt (by simp)) (fun hh => h hh.symm), UInt8.toNat_inj.1 e⟩
        have e : valD (b :: t) = valD [b] * 10 ^ t.length + valD t := valD_app [b] t.length t rfl
        have e1 : valD [b] = b.toNat - 48 := by simp [valD]
        have e2 : (b :: t).length - 1 = t.length := by simp
        rw [e, e1, e2]
        have := Nat.mul_le_mul_right (10 ^ t.length) (show 1 ≤ b.toNat - 48 by omega)
        omega
  unfold decS
  rw [hk]
  exact dec_valD s.length s rfl ha
/-- The text's head is a number's. -/
def okH (s : List UInt8) : Bool := decide (s ≠ [] ∧ ¬ (1 < s.length ∧ s.getD 0 0 = 48))
theorem okT_iff {s : List UInt8} : okT s ↔ (okH s && s.all isD) = true := by
  unfold okT okH
  rw [Bool.and_eq_true, decide_eq_true_iff]
  exact ⟨fun h => ⟨⟨h.1, h.2.1⟩, h.2.2⟩, fun h => ⟨h.1.1, h.1.2, h.2⟩⟩
end Go.Proofs.YtfkpfhjfjnnbbaaDoor
