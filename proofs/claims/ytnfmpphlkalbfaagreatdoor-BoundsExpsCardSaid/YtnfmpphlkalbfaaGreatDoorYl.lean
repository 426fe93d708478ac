import Derived.Test.YtnfmpphlkalbfaaGreatDoorFw
import Derived.Test.YtnfmpphlkalbfaaGreatDoorRc
import Derived.Test.YtnfmpphlkalbfaaGreatDoorD3
import Derived.Test.YtnfmpphlkalbfaaGreatDoorN1
import Derived.Test.YtnfmpphlkalbfaaGreatDoorRa
/-! Law 5: what came in. -/
namespace Go.Proofs.YtnfmpphlkalbfaaGreatDoor
open Go.Eng Go.Vx
set_option linter.unusedSimpArgs false
set_option linter.unusedVariables false
set_option maxRecDepth 100000
/-- Words that came in. -/
theorem ws_nat {l : List Int} (h : ∀ x ∈ l, 0 ≤ x ∧ x ≤ 18446744073709551615) : ∃ W : List Nat, l = nl W ∧ ∀ d ∈ W, d < 18446744073709551616 := by
  refine ⟨l.map Int.toNat, ?_, fun d hd => ?_⟩
  · unfold nl
    rw [List.map_map]
    conv => lhs; rw [← List.map_id l]
    exact List.map_congr_left fun x hx => by have := h x hx; simp; omega
  · obtain ⟨x, hx, rfl⟩ := List.mem_map.1 hd
    have := h x hx
    omega
theorem few_of {W : List Nat} {k : Nat} (hW : ∀ d ∈ W, d < 18446744073709551616) (hl : W.length ≤ 9223372036854775807) (hk : k ≤ 1000) : Fn1 Tryz.prog 25 [.row 1 ((nl W).map (ie .u64)), .lit (.int .i64 (k : Int))] [] (.row 1 ((nl (W.take k)).map (ie .u64))) [] ∧
    (∀ d ∈ W.take k, d < 18446744073709551616) ∧ (W.take k).length ≤ k := by
  have h := few5_fn (W := nl W) (n := k) (by rw [nl_len]; exact hl) (by omega)
  rw [nl_takeR] at h
  exact ⟨h, fun d hd => hW d (List.mem_of_mem_take hd), by rw [List.length_take]; omega⟩
theorem val_len {W : List Nat} {k : Nat} (hW : ∀ d ∈ W, d < 18446744073709551616) (hk : W.length ≤ k) : (wg (valB 18446744073709551616 W)).length ≤ k :=
  wg_len (Nat.lt_of_lt_of_le (valB_lt hW) (Nat.pow_le_pow_right (by decide) hk))
theorem dadd_len {a b k : Nat} (ha : (dg a).length ≤ k) (hb : (dg b).length ≤ k) : (dg (a + b)).length ≤ k + 1 := dgB_len_add (B := 10000) (by decide) ha hb
theorem wmul_len (a b : Nat) : (wg (a * b)).length ≤ (wg a).length + (wg b).length := dgB_len_mul (B := 18446744073709551616) (by decide) a b
end Go.Proofs.YtnfmpphlkalbfaaGreatDoor

/-! Law 5: the document's Bits and Gcd. -/
namespace Go.Proofs.YtnfmpphlkalbfaaGreatDoor
open Go.Eng Go.Vx
set_option linter.unusedSimpArgs false
set_option linter.unusedVariables false
set_option maxRecDepth 100000
theorem dg_pos {b : Nat} (hb : b ≠ 0) : 0 < (dg b).length := by
  rcases Nat.eq_zero_or_pos (dg b).length with h | h
  · exfalso
    have h' : dg b = [] := List.length_eq_zero_iff.1 h
    have : valB 10000 (dg b) = b := dgB_val (by decide) b
    rw [h'] at this
    exact hb this.symm
  · exact h
end Go.Proofs.YtnfmpphlkalbfaaGreatDoor

/-! Decimal digits: plain facts. -/
namespace Go.Proofs.YtnfmpphlkalbfaaGreatDoor
open Go.Eng
set_option linter.unusedSimpArgs false
set_option linter.unusedVariables false
/-- The k lowest decimal digits of a number, the highest first. -/
def decL : Nat → Nat → List Nat
  | 0, _ => []
  | k + 1, u => decL k (u / 10) ++ [u % 10]
theorem decL_len : ∀ k u, (decL k u).length = k
  | 0, _ => rfl
  | k + 1, u => by unfold decL; rw [List.length_append, decL_len k]; rfl
theorem decL_lt : ∀ k u, ∀ d ∈ decL k u, d < 10
  | 0, _, d, h => by simp [decL] at h
  | k + 1, u, d, h => by
    unfold decL at h
    rcases List.mem_append.1 h with h | h
    · exact decL_lt k _ d h
    · simp at h; omega
theorem decL_add : ∀ j k u, decL (k + j) u = decL k (u / 10 ^ j) ++ decL j u
  | 0, k, u => by simp [decL]
  | j + 1, k, u => by
    show decL (k + j) (u / 10) ++ [u % 10] = decL k (u / 10 ^ (j + 1)) ++ (decL j (u / 10) ++ [u % 10])
    rw [decL_add j k, Nat.pow_succ, Nat.mul_comm (10 ^ j), Nat.div_div_eq_div_mul, List.append_assoc]
theorem decL_mod : ∀ k u, decL k (u % 10 ^ k) = decL k u
  | 0, _ => rfl
  | k + 1, u => by
    show decL k (u % 10 ^ (k + 1) / 10) ++ [u % 10 ^ (k + 1) % 10] = decL k (u / 10) ++ [u % 10]
    rw [Nat.pow_succ, Nat.mod_mul_left_mod, Nat.mul_comm, Nat.mod_mul_right_div_self, decL_mod k]
theorem decL_zero : ∀ k, decL k 0 = List.replicate k 0
  | 0 => rfl
  | k + 1 => by
    show decL k (0 / 10) ++ [0 % 10] = _
    rw [Nat.zero_div, decL_zero k, List.replicate_succ']
/-- How many decimal digits a number has (0: one). -/
def nd10 (n : Nat) : Nat := max 1 (dgB 10 n).length
theorem nd10_pos (n : Nat) : 1 ≤ nd10 n := by unfold nd10; omega
theorem nd10_lt (n : Nat) : n < 10 ^ nd10 n := by
  have h := dgB_lt_pow (B := 10) (by decide) n
  unfold nd10
  exact Nat.lt_of_lt_of_le h (Nat.pow_le_pow_right (by decide) (by omega))
theorem nd10_le {n k : Nat} (hk : 1 ≤ k) : nd10 n ≤ k ↔ n < 10 ^ k := by
  unfold nd10
  rw [← dgB_len_le (B := 10) (by decide)]
  omega
theorem nd10_eq {n k : Nat} (hk : 1 ≤ k) (h1 : n < 10 ^ k) (h2 : 10 ^ (k - 1) ≤ n ∨ k = 1) : nd10 n = k := by
  have a := (nd10_le hk).2 h1
  have b := nd10_pos n
  rcases Nat.eq_or_lt_of_le a with e | e
  · exact e
  · rcases h2 with h2 | h2
    · have := (nd10_le (n := n) (k := k - 1) (by omega)).1 (by omega)
      omega
    · omega
/-- A number's decimal text. -/
def decB (l : List Nat) : List UInt8 := l.map fun d => UInt8.ofNat (48 + d)
def decS (n : Nat) : List UInt8 := decB (decL (nd10 n) n)
theorem decB_app (a b : List Nat) : decB (a ++ b) = decB a ++ decB b := by simp [decB]
theorem decB_len (l : List Nat) : (decB l).length = l.length := by simp [decB]
theorem decS_len (n : Nat) : (decS n).length = nd10 n := by rw [decS, decB_len, decL_len]
/-- A number's text, out of its upper part's and k digits more. -/
theorem decS_split {n j : Nat} (h : n / 10 ^ j ≠ 0) : decS n = decS (n / 10 ^ j) ++ decB (decL j n) := by
  have hp : 0 < 10 ^ j := Nat.pow_pos (by decide)
  have h1 := nd10_lt (n / 10 ^ j)
  have h2 := nd10_pos (n / 10 ^ j)
  have e : nd10 n = nd10 (n / 10 ^ j) + j := by
    refine nd10_eq (by omega) ?_ (.inl ?_)
    · rw [Nat.pow_add, ← Nat.div_lt_iff_lt_mul hp]; exact h1
    · rw [show nd10 (n / 10 ^ j) + j - 1 = (nd10 (n / 10 ^ j) - 1) + j by omega, Nat.pow_add, ← Nat.le_div_iff_mul_le hp]
      by_cases e : nd10 (n / 10 ^ j) = 1
      · rw [e]
        exact Nat.pos_of_ne_zero h
      · refine Classical.byContradiction fun hn => ?_
        have := (nd10_le (n := n / 10 ^ j) (k := nd10 (n / 10 ^ j) - 1) (by omega)).2 (by omega)
        omega
  unfold decS
  rw [e, decL_add, decB_app]
theorem decS_small {n : Nat} (h : n < 10) : decS n = [UInt8.ofNat (48 + n)] := by
  have e : nd10 n = 1 := nd10_eq (by decide) (by simpa using h) (.inr rfl)
  unfold decS
  rw [e]
  show decB ([] ++ [n % 10]) = _
  rw [Nat.mod_eq_of_lt h]
  rfl
theorem decS_pad {n k : Nat} (hk : nd10 n ≤ k) : decB (decL k n) = List.replicate (k - nd10 n) 48 ++ decS n := by
  have e : k = (k - nd10 n) + nd10 n := by omega
  conv => lhs; rw [e, decL_add]
  rw [Nat.div_eq_of_lt (nd10_lt n), decL_zero, decB_app]
  unfold decS
  congr 1
  simp [decB]
end Go.Proofs.YtnfmpphlkalbfaaGreatDoor
