import Derived.Test.YtnfmpphlkalbfaaGreatDoorYw
/-! Texts and numbers: plain facts. -/
namespace Go.Proofs.YtnfmpphlkalbfaaGreatDoor
open Go.Eng Go.Vx
set_option linter.unusedSimpArgs false
set_option linter.unusedVariables false
set_option maxRecDepth 100000
theorem dig_byte {d : Nat} (h : d < 10) : (UInt8.ofNat (48 + d)).toNat = 48 + d := by
  rw [UInt8.toNat_ofNat']
  exact Nat.mod_eq_of_lt (by omega)
theorem dig_isD {d : Nat} (h : d < 10) : isD (UInt8.ofNat (48 + d)) = true := by
  unfold isD
  rw [dig_byte h]
  exact decide_eq_true ⟨by omega, by omega⟩
theorem valD_dec : ∀ k u, valD (decB (decL k u)) = u % 10 ^ k
  | 0, u => by simp [decL, decB, valD, Nat.mod_one]
  | k + 1, u => by
    have hd : u % 10 < 10 := Nat.mod_lt _ (by decide)
    show valD (decB (decL k (u / 10) ++ [u % 10])) = _
    rw [decB_app]
    show valD (decB (decL k (u / 10)) ++ [UInt8.ofNat (48 + u % 10)]) = _
    rw [valD_snoc, valD_dec k, dig_byte hd, Nat.pow_succ, Nat.mul_comm (10 ^ k) 10, Nat.mod_mul]
    omega
theorem valD_decS (n : Nat) : valD (decS n) = n := by
  unfold decS
  rw [valD_dec, Nat.mod_eq_of_lt (nd10_lt n)]
theorem decB_all {l : List Nat} (h : ∀ d ∈ l, d < 10) : (decB l).all isD = true := by
  refine List.all_eq_true.2 fun b hb => ?_
  unfold decB at hb
  obtain ⟨d, hd, rfl⟩ := List.mem_map.1 hb
  exact dig_isD (h d hd)
theorem decS_ok (n : Nat) : okT (decS n) := by
  refine ⟨fun e => ?_, fun ⟨h1, h2⟩ => ?_, decB_all (decL_lt _ _)⟩
  · have h1 := decS_len n
    rw [e] at h1
    have h2 := nd10_pos n
    simp at h1
    omega
  · rw [decS_len] at h1
    obtain ⟨k, hk⟩ : ∃ k, nd10 n = k + 1 := ⟨nd10 n - 1, by omega⟩
    have hle : 10 ^ k ≤ n := by
      refine Classical.byContradiction fun hc => ?_
      have := (nd10_le (n := n) (k := k) (by omega)).2 (by omega)
      omega
    have hlt := nd10_lt n
    rw [hk, Nat.pow_succ] at hlt
    have hp : 0 < 10 ^ k := Nat.pow_pos (by decide)
    have hq1 : 1 ≤ n / 10 ^ k := (Nat.one_le_div_iff hp).2 hle
    have hq2 : n / 10 ^ k < 10 := (Nat.div_lt_iff_lt_mul hp).2 (by rw [Nat.mul_comm]; exact hlt)
    have e : decS n = UInt8.ofNat (48 + n / 10 ^ k % 10) :: decB (decL k n) := by
      unfold decS
      rw [hk, Nat.add_comm, decL_add k 1]
      rfl
    rw [e] at h2
    have h3 := congrArg UInt8.toNat h2
    rw [show (UInt8.ofNat (48 + n / 10 ^ k % 10) :: decB (decL k n)).getD 0 0 = UInt8.ofNat (48 + n / 10 ^ k % 10) from rfl, dig_byte (Nat.mod_lt _ (by decide)), Nat.mod_eq_of_lt hq2] at h3
    have h4 : (48 : UInt8).toNat = 48 := rfl
    omega
theorem dec_valD : ∀ (k : Nat) (s : List UInt8), s.length = k → s.all isD = true → decB (decL k (valD s)) = s := by
  intro k
  induction k with
  | zero => intro s hs _; rw [List.length_eq_zero_iff.1 hs]; rfl
  | succ k ih =>
    intro s hs ha
    have hne : s ≠ [] := fun e => by rw [e] at hs; simp at hs
    have e := List.dropLast_concat_getLast hne
    have hal := List.all_eq_true.1 ha
    have h1 := ih s.dropLast (by simp [hs]) (List.all_eq_true.2 fun b hb => hal b (List.dropLast_subset s hb))
    have h2 := of_decide_eq_true (hal (s.getLast hne) (List.getLast_mem hne))
    generalize s.getLast hne = b at *
    generalize s.dropLast = t at *
    subst e
    rw [valD_snoc]
    show decB (decL k ((valD t * 10 + (b.toNat - 48)) / 10) ++ [(valD t * 10 + (b.toNat - 48)) % 10]) = _
    rw [show (valD t * 10 + (b.toNat - 48)) / 10 = valD t by omega, show (valD t * 10 + (b.toNat - 48)) % 10 = b.toNat - 48 by omega, decB_app, h1]
    congr 1
    show [UInt8.ofNat (48 + (b.toNat - 48))] = [b]
    rw [show 48 + (b.toNat - 48) = b.toNat by omega, UInt8.ofNat_toNat]
theorem decS_valD {s : List UInt8} (h : okT s) : decS (valD s) = s := by
  obtain ⟨h0, h1, ha⟩ := h
  have hal := List.all_eq_true.1 ha
  have hlt := valD_lt (s := s) hal
  have hl0 : s.length ≠ 0 := fun e => h0 (List.length_eq_zero_iff.1 e)
  have hk : nd10 (valD s) = s.length := by
    refine nd10_eq (by omega) hlt ?_
    by_cases h : s.length = 1
    · exact .inr h
    · left
      match s, h0, h1, hal, h with
      | b :: t, _, h1, hal, h =>
        have hb := of_decide_eq_true (hal b (by simp))
        have hb2 : b.toNat ≠ 48 := fun e => h1 ⟨Nat.lt_of_le_of_ne (Nat.succ_le_of_lt (by simp)) (fun hh => h hh.symm), UInt8.toNat_inj.1 e⟩
        have e : valD (b :: t) = valD [b] * 10 ^ t.length + valD t := valD_app [b] t.length t rfl
        have e1 : valD [b] = b.toNat - 48 := by simp [valD]
        have e2 : (b :: t).length - 1 = t.length := by simp
        rw [e, e1, e2]
        have := Nat.mul_le_mul_right (10 ^ t.length) (show 1 ≤ b.toNat - 48 by omega)
        omega
  unfold decS
  rw [hk]
  exact dec_valD s.length s rfl ha
/-- The text's head is a number's. -/
def okH (s : List UInt8) : Bool := decide (s ≠ [] ∧ ¬ (1 < s.length ∧ s.getD 0 0 = 48))
end Go.Proofs.YtnfmpphlkalbfaaGreatDoor
