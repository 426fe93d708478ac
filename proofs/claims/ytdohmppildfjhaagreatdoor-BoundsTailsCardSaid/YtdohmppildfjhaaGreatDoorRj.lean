import Derived.Test.YtdohmppildfjhaaGreatDoorE6
import Derived.Test.YtdohmppildfjhaaGreatDoorE7
import Derived.Test.YtdohmppildfjhaaGreatDoorRa
namespace Go.Proofs.YtdohmppildfjhaaGreatDoor
open Go.Eng Go.Vx
set_option linter.unusedSimpArgs false
set_option linter.unusedVariables false
set_option maxRecDepth 100000
theorem tab_ix {s : ByteArray} {z : Nat} {F : Bool → V → Prop} (h : ∀ z : Fin 256, strAt s z.val = bl z.val) (hs : s.size = 256) (hz : z < 256) :
  ixvV Tryz.prog 9 (.lit (.string s)) (.lit (.int .u8 (z : Int))) F = F true (.lit (.int .u8 (bl z : Int))) := by
 rw [vis_9 (by omega), show ((z : Nat) : Int).toNat = z by omega, h ⟨z, hz⟩]
theorem len64_fn {n : Nat} (hn : n < 18446744073709551616) : Fn1 Tryz.prog 96 [.lit (.int .u64 n)] [] (.lit (.int .i64 (bl n : Int))) [] := by
 refine fn1N_of pl96 (by kernel_rfl) Tryz.call96 Tryz.func96 rfl (by kernel_rfl) rfl [.tmp 2] (by kernel_rfl) fun Q hQ => ?_
 obtain ⟨c, hc⟩ : ∃ c : Int, c = bl n := ⟨_, rfl⟩
 rw [← hc] at hQ
 by_cases h32 : 4294967296 ≤ n
 case' pos =>
  have e1 := bl_div (n := n) (k := 32) h32
  refine runW ?_
  rw [show (n : Int) / 4294967296 = ((n / 2 ^ 32 : Nat) : Int) by omega]
  have hx : n / 2 ^ 32 < 4294967296 := by omega
  generalize n / 2 ^ 32 = x at *
 case' neg =>
  refine runW ?_
  have hx : n < 4294967296 := by omega
  have e1 : bl n = 0 + bl n := by omega
  obtain ⟨x, rfl⟩ : ∃ x, x = n := ⟨_, rfl⟩
 all_goals
  by_cases h16 : 65536 ≤ x
  case' pos =>
   have e2 := bl_div (n := x) (k := 16) h16
   refine runW ?_
   rw [show (x : Int) / 65536 = ((x / 2 ^ 16 : Nat) : Int) by omega]
   have hy : x / 2 ^ 16 < 65536 := by omega
   generalize x / 2 ^ 16 = y at *
  case' neg =>
   refine runW ?_
   have hy : x < 65536 := by omega
   have e2 : bl x = 0 + bl x := by omega
   obtain ⟨y, rfl⟩ : ∃ y, y = x := ⟨_, rfl⟩
 all_goals
  by_cases h8 : 256 ≤ y
  case' pos =>
   have e3 := bl_div (n := y) (k := 8) h8
   refine runW ?_
   rw [show (y : Int) / 256 = ((y / 2 ^ 8 : Nat) : Int) by omega]
   have hz : y / 2 ^ 8 < 256 := by omega
   generalize y / 2 ^ 8 = z at *
  case' neg =>
   refine runW ?_
   have hz : y < 256 := by omega
   have e3 : bl y = 0 + bl y := by omega
   obtain ⟨z, rfl⟩ : ∃ z, z = y := ⟨_, rfl⟩
 all_goals
  have hb8 := bl_le_of (n := z) (k := 8) hz
  rw [tab_ix (of_decide_eq_true (by kernel_rfl)) (by kernel_rfl) hz]
  refine runW ?_
  exact endW [] hQ
open Go.Eng
def decL : Nat → Nat → List Nat
 | 0, _ => []
 | k + 1, u => decL k (u / 10) ++ [u % 10]
theorem decL_len : ∀ k u, (decL k u).length = k
 | 0, _ => rfl
 | k + 1, u => by unfold decL; rw [List.length_append, decL_len k]; rfl
theorem decL_lt : ∀ k u, ∀ d ∈ decL k u, d < 10
 | 0, _, d, h => by simp [decL] at h
 | k + 1, u, d, h => by
  unfold decL at h
  rcases List.mem_append.1 h with h | h
  ·
   exact decL_lt k _ d h
  ·
   simp at h; omega
theorem decL_add : ∀ j k u, decL (k + j) u = decL k (u / 10 ^ j) ++ decL j u
 | 0, k, u => by simp [decL]
 | j + 1, k, u => by
  show decL (k + j) (u / 10) ++ [u % 10] = decL k (u / 10 ^ (j + 1)) ++ (decL j (u / 10) ++ [u % 10])
  rw [decL_add j k, Nat.pow_succ, Nat.mul_comm (10 ^ j), Nat.div_div_eq_div_mul, List.append_assoc]
theorem decL_mod : ∀ k u, decL k (u % 10 ^ k) = decL k u
 | 0, _ => rfl
 | k + 1, u => by
  show decL k (u % 10 ^ (k + 1) / 10) ++ [u % 10 ^ (k + 1) % 10] = decL k (u / 10) ++ [u % 10]
  rw [Nat.pow_succ, Nat.mod_mul_left_mod, Nat.mul_comm, Nat.mod_mul_right_div_self, decL_mod k]
theorem decL_zero : ∀ k, decL k 0 = List.replicate k 0
 | 0 => rfl
 | k + 1 => by
  show decL k (0 / 10) ++ [0 % 10] = _
  rw [Nat.zero_div, decL_zero k, List.replicate_succ']
def nd10 (n : Nat) : Nat := max 1 (dgB 10 n).length
theorem nd10_pos (n : Nat) : 1 ≤ nd10 n := by unfold nd10; omega
theorem nd10_lt (n : Nat) : n < 10 ^ nd10 n := by
 have h := dgB_lt_pow (B := 10) (by decide) n
 unfold nd10
 exact Nat.lt_of_lt_of_le h (Nat.pow_le_pow_right (by decide) (by omega))
theorem nd10_le {n k : Nat} (hk : 1 ≤ k) : nd10 n ≤ k ↔ n < 10 ^ k := by
 unfold nd10
 rw [← dgB_len_le (B := 10) (by decide)]
 omega
theorem nd10_eq {n k : Nat} (hk : 1 ≤ k) (h1 : n < 10 ^ k) (h2 : 10 ^ (k - 1) ≤ n ∨ k = 1) : nd10 n = k := by
 have a := (nd10_le hk).2 h1
 have b := nd10_pos n
 rcases Nat.eq_or_lt_of_le a with e | e
 ·
  exact e
 ·
  rcases h2 with h2 | h2
  ·
   have := (nd10_le (n := n) (k := k - 1) (by omega)).1 (by omega)
   omega
  ·
   omega
def decB (l : List Nat) : List UInt8 := l.map fun d => UInt8.ofNat (48 + d)
def decS (n : Nat) : List UInt8 := decB (decL (nd10 n) n)
theorem decB_app (a b : List Nat) : decB (a ++ b) = decB a ++ decB b := by simp [decB]
theorem decB_len (l : List Nat) : (decB l).length = l.length := by simp [decB]
theorem decS_len (n : Nat) : (decS n).length = nd10 n := by rw [decS, decB_len, decL_len]
theorem decS_split {n j : Nat} (h : n / 10 ^ j ≠ 0) : decS n = decS (n / 10 ^ j) ++ decB (decL j n) := by
 have hp : 0 < 10 ^ j := Nat.pow_pos (by decide)
 have h1 := nd10_lt (n / 10 ^ j)
 have h2 := nd10_pos (n / 10 ^ j)
 have e : nd10 n = nd10 (n / 10 ^ j) + j := by
  refine nd10_eq (by omega) ?_ (.inl ?_)
  ·
   rw [Nat.pow_add, ← Nat.div_lt_iff_lt_mul hp]; exact h1
  ·
   rw [show nd10 (n / 10 ^ j) + j - 1 = (nd10 (n / 10 ^ j) - 1) + j by omega, Nat.pow_add, ← Nat.le_div_iff_mul_le hp]
   by_cases e : nd10 (n / 10 ^ j) = 1
   ·
    rw [e]
    exact Nat.pos_of_ne_zero h
   ·
    refine Classical.byContradiction fun hn => ?_
    have := (nd10_le (n := n / 10 ^ j) (k := nd10 (n / 10 ^ j) - 1) (by omega)).2 (by omega)
    omega
 unfold decS
 rw [e, decL_add, decB_app]
theorem decS_small {n : Nat} (h : n < 10) : decS n = [UInt8.ofNat (48 + n)] := by
 have e : nd10 n = 1 := nd10_eq (by decide) (by simpa using h) (.inr rfl)
 unfold decS
 rw [e]
 show decB ([] ++ [n % 10]) = _
 rw [Nat.mod_eq_of_lt h]
 rfl
theorem decS_pad {n k : Nat} (hk : nd10 n ≤ k) : decB (decL k n) = List.replicate (k - nd10 n) 48 ++ decS n := by
 have e : k = (k - nd10 n) + nd10 n := by omega
 conv => lhs; rw [e, decL_add]
 rw [Nat.div_eq_of_lt (nd10_lt n), decL_zero, decB_app]
 unfold decS
 congr 1
 simp [decB]
theorem log_ok : ∀ b : Fin 65, 1 ≤ b.val → 2 ^ b.val ≤ 10 ^ (b.val * 78913 / 262144 + 1) ∧ (b.val * 78913 / 262144 = 0 ∨ 10 ^ (b.val * 78913 / 262144 - 1) ≤ 2 ^ (b.val - 1)) ∧ b.val * 78913 / 262144 < 20 := by decide +kernel
theorem nd10_log {d : Nat} (h0 : d ≠ 0) (h : d < 18446744073709551616) : nd10 d = bl d * 78913 / 262144 + (if 10 ^ (bl d * 78913 / 262144) ≤ d then 1 else 0) ∧ bl d * 78913 / 262144 < 20 := by
 have h1 := bl_lt d
 have h2 := bl_le (n := d) h0
 have h3 := bl_le_of (n := d) (k := 64) (by omega)
 have h4 : 1 ≤ bl d := by
  rcases Nat.eq_zero_or_pos (bl d) with e | e
  ·
   rw [e] at h1; simp at h1; omega
  ·
   exact e
 obtain ⟨k1, k2, k3⟩ := log_ok ⟨bl d, by omega⟩ h4
 simp only at k1 k2 k3
 refine ⟨?_, k3⟩
 generalize bl d * 78913 / 262144 = k at *
 by_cases hc : 10 ^ k ≤ d
 ·
  rw [if_pos hc]
  exact nd10_eq (by omega) (Nat.lt_of_lt_of_le h1 k1) (.inl (by rw [Nat.add_sub_cancel]; exact hc))
 ·
  rw [if_neg hc, Nat.add_zero]
  have hk : k ≠ 0 := fun e => by subst e; simp at hc; omega
  exact nd10_eq (by omega) (by omega) (.inl (Nat.le_trans (k2.resolve_left hk) h2))
end Go.Proofs.YtdohmppildfjhaaGreatDoor
