import Derived.Test.YtpkfddfkacijoaaGreatDoorFw
import Derived.Test.YtpkfddfkacijoaaGreatDoorE8
import Derived.Test.YtpkfddfkacijoaaGreatDoorFa
import Derived.Test.YtpkfddfkacijoaaGreatDoorRa
import Derived.Test.YtpkfddfkacijoaaGreatDoorE6
import Derived.Test.YtpkfddfkacijoaaGreatDoorD1
import Derived.Test.YtpkfddfkacijoaaGreatDoorWh
namespace Go.Proofs.YtpkfddfkacijoaaGreatDoor
set_option linter.unusedSimpArgs false
set_option linter.unusedVariables false
variable {α : Type}
def DT.sub : DT α → List Bool → DT α
 | t, [] => t
 | .ret a, _ :: _ => .ret a
 | .ask f g, b :: bs => (if b then g else f).sub bs
theorem sub_ret (a : α) (L : List Bool) : (DT.ret a).sub L = .ret a := by cases L <;> rfl
def wkS (val : α → Nat) : DT α → Nat → Nat
 | .ret a, f => val a * 2 ^ f
 | .ask _ _, 0 => 0
 | .ask g h, f + 1 => wkS val g f + wkS val h f
def wkO : DT α → Nat → Bool
 | .ret _, _ => false
 | .ask _ _, 0 => true
 | .ask g h, f + 1 => wkO g f || wkO h f
def wkA (q : α → Bool) : DT α → Nat → Bool
 | .ret a, _ => q a
 | .ask _ _, 0 => false
 | .ask g h, f + 1 => wkA q g f || wkA q h f
def actsD (P : SP) (x y z : Nat) : DT SS :=
 (addD P ([(0, 0), (0, 0)], 1, false) 0 x).bind fun a => (addD P a 1 y).bind fun b => (addD P b 0 z).bind fun c => mergeD P c c
end Go.Proofs.YtpkfddfkacijoaaGreatDoor

namespace Go.Proofs.YtpkfddfkacijoaaGreatDoor
open Go.Eng Go.Vx
set_option linter.unusedSimpArgs false
set_option linter.unusedVariables false
set_option maxRecDepth 100000
def belowR (L : List Bool) (n w : Nat) : Nat → Nat → Nat × Int × Nat × Bool
 | 0, p => (0, 8, L.length, true)
 | f + 1, p => if p + w ≤ L.length then (if numOf ((L.drop p).take w) < n then (numOf ((L.drop p).take w), 0, p + w, false) else belowR L n w f (p + w)) else (0, 8, L.length, true)
def belowX (L : List Bool) (n p : Nat) : Nat × Int × Nat × Bool := belowR L n (bl (n - 1)) (L.length + 1 - p) p
def cT : List Bool → Nat
 | [] => 0
 | b :: l => b.toNat + cT l
def binX (L : List Bool) (Y p : Nat) : Nat × Int × Nat × Bool := if p + Y ≤ L.length then (cT ((L.drop p).take Y), 0, p + Y, false) else (0, 8, L.length, true)
end Go.Proofs.YtpkfddfkacijoaaGreatDoor

namespace Go.Proofs.YtpkfddfkacijoaaGreatDoor
open Go.Eng Go.Vx
set_option linter.unusedSimpArgs false
set_option linter.unusedVariables false
set_option maxRecDepth 100000
def outV (N took : Nat) (e : Int) : V := .agg [.lit (.int .u64 (N : Int)), .lit (.int .i64 (took : Int)), .lit (.int .i64 e)]
attribute [go_sem] outV
end Go.Proofs.YtpkfddfkacijoaaGreatDoor

namespace Go.Proofs.YtpkfddfkacijoaaGreatDoor
open Go.Eng Go.Vx
set_option linter.unusedSimpArgs false
set_option linter.unusedVariables false
set_option maxRecDepth 100000
end Go.Proofs.YtpkfddfkacijoaaGreatDoor

namespace Go.Proofs.YtpkfddfkacijoaaGreatDoor
open Go.Eng Go.Vx
set_option linter.unusedSimpArgs false
set_option linter.unusedVariables false
set_option maxRecDepth 100000
def dg (n : Nat) : List Nat := dgB 10000 n
def DV (n : Nat) : V := .row 1 ((nl (dg n)).map (ie .i64))
attribute [go_sem] DV
end Go.Proofs.YtpkfddfkacijoaaGreatDoor

namespace Go.Proofs.YtpkfddfkacijoaaGreatDoor
open Go.Eng Go.Vx
set_option linter.unusedSimpArgs false
set_option linter.unusedVariables false
set_option maxRecDepth 100000
def wv (W : List Nat) : Nat := valB 18446744073709551616 W
end Go.Proofs.YtpkfddfkacijoaaGreatDoor

namespace Go.Proofs.YtpkfddfkacijoaaGreatDoor
open Go.Eng Go.Vx
set_option linter.unusedSimpArgs false
set_option linter.unusedVariables false
set_option maxRecDepth 100000
end Go.Proofs.YtpkfddfkacijoaaGreatDoor

namespace Go.Proofs.YtpkfddfkacijoaaGreatDoor
open Go.Eng
set_option linter.unusedSimpArgs false
set_option linter.unusedVariables false
def decL : Nat → Nat → List Nat
 | 0, _ => []
 | k + 1, u => decL k (u / 10) ++ [u % 10]
theorem decL_len : ∀ k u, (decL k u).length = k
 | 0, _ => rfl
 | k + 1, u => by unfold decL; rw [List.length_append, decL_len k]; rfl
theorem decL_lt : ∀ k u, ∀ d ∈ decL k u, d < 10
 | 0, _, d, h => by simp [decL] at h
 | k + 1, u, d, h => by
  unfold decL at h
  rcases List.mem_append.1 h with h | h
  ·
   exact decL_lt k _ d h
  ·
   simp at h; omega
theorem decL_add : ∀ j k u, decL (k + j) u = decL k (u / 10 ^ j) ++ decL j u
 | 0, k, u => by simp [decL]
 | j + 1, k, u => by
  show decL (k + j) (u / 10) ++ [u % 10] = decL k (u / 10 ^ (j + 1)) ++ (decL j (u / 10) ++ [u % 10])
  rw [decL_add j k, Nat.pow_succ, Nat.mul_comm (10 ^ j), Nat.div_div_eq_div_mul, List.append_assoc]
theorem decL_mod : ∀ k u, decL k (u % 10 ^ k) = decL k u
 | 0, _ => rfl
 | k + 1, u => by
  show decL k (u % 10 ^ (k + 1) / 10) ++ [u % 10 ^ (k + 1) % 10] = decL k (u / 10) ++ [u % 10]
  rw [Nat.pow_succ, Nat.mod_mul_left_mod, Nat.mul_comm, Nat.mod_mul_right_div_self, decL_mod k]
theorem decL_zero : ∀ k, decL k 0 = List.replicate k 0
 | 0 => rfl
 | k + 1 => by
  show decL k (0 / 10) ++ [0 % 10] = _
  rw [Nat.zero_div, decL_zero k, List.replicate_succ']
def nd10 (n : Nat) : Nat := max 1 (dgB 10 n).length
theorem nd10_pos (n : Nat) : 1 ≤ nd10 n := by unfold nd10; omega
theorem nd10_lt (n : Nat) : n < 10 ^ nd10 n := by
 have h := dgB_lt_pow (B := 10) (by decide) n
 unfold nd10
 exact Nat.lt_of_lt_of_le h (Nat.pow_le_pow_right (by decide) (by omega))
theorem nd10_le {n k : Nat} (hk : 1 ≤ k) : nd10 n ≤ k ↔ n < 10 ^ k := by
 unfold nd10
 rw [← dgB_len_le (B := 10) (by decide)]
 omega
theorem nd10_eq {n k : Nat} (hk : 1 ≤ k) (h1 : n < 10 ^ k) (h2 : 10 ^ (k - 1) ≤ n ∨ k = 1) : nd10 n = k := by
 have a := (nd10_le hk).2 h1
 have b := nd10_pos n
 rcases Nat.eq_or_lt_of_le a with e | e
 ·
  exact e
 ·
  rcases h2 with h2 | h2
  ·
   have := (nd10_le (n := n) (k := k - 1) (by omega)).1 (by omega)
   omega
  ·
   omega
def decB (l : List Nat) : List UInt8 := l.map fun d => UInt8.ofNat (48 + d)
def decS (n : Nat) : List UInt8 := decB (decL (nd10 n) n)
theorem decB_app (a b : List Nat) : decB (a ++ b) = decB a ++ decB b := by simp [decB]
theorem decB_len (l : List Nat) : (decB l).length = l.length := by simp [decB]
theorem decS_len (n : Nat) : (decS n).length = nd10 n := by rw [decS, decB_len, decL_len]
theorem decS_split {n j : Nat} (h : n / 10 ^ j ≠ 0) : decS n = decS (n / 10 ^ j) ++ decB (decL j n) := by
 have hp : 0 < 10 ^ j := Nat.pow_pos (by decide)
 have h1 := nd10_lt (n / 10 ^ j)
 have h2 := nd10_pos (n / 10 ^ j)
 have e : nd10 n = nd10 (n / 10 ^ j) + j := by
  refine nd10_eq (by omega) ?_ (.inl ?_)
  ·
   rw [Nat.pow_add, ← Nat.div_lt_iff_lt_mul hp]; exact h1
  ·
   rw [show nd10 (n / 10 ^ j) + j - 1 = (nd10 (n / 10 ^ j) - 1) + j by omega, Nat.pow_add, ← Nat.le_div_iff_mul_le hp]
   by_cases e : nd10 (n / 10 ^ j) = 1
   ·
    rw [e]
    exact Nat.pos_of_ne_zero h
   ·
    refine Classical.byContradiction fun hn => ?_
    have := (nd10_le (n := n / 10 ^ j) (k := nd10 (n / 10 ^ j) - 1) (by omega)).2 (by omega)
    omega
 unfold decS
 rw [e, decL_add, decB_app]
theorem decS_small {n : Nat} (h : n < 10) : decS n = [UInt8.ofNat (48 + n)] := by
 have e : nd10 n = 1 := nd10_eq (by decide) (by simpa using h) (.inr rfl)
 unfold decS
 rw [e]
 show decB ([] ++ [n % 10]) = _
 rw [Nat.mod_eq_of_lt h]
 rfl
theorem decS_pad {n k : Nat} (hk : nd10 n ≤ k) : decB (decL k n) = List.replicate (k - nd10 n) 48 ++ decS n := by
 have e : k = (k - nd10 n) + nd10 n := by omega
 conv => lhs; rw [e, decL_add]
 rw [Nat.div_eq_of_lt (nd10_lt n), decL_zero, decB_app]
 unfold decS
 congr 1
 simp [decB]
end Go.Proofs.YtpkfddfkacijoaaGreatDoor
