import Derived.Test.YtpkfddfkacijoaaE7
namespace Go.Proofs.Ytpkfddfkacijoaa
open Go.Eng
set_option linter.unusedSimpArgs false
set_option linter.unusedVariables false
def packN (w : Nat) : List Nat → Nat
  | [] => 0
  | x :: l => x + 2 ^ w * packN w l
def words (m X : Nat) : List Int := (List.range m).map fun k => ((X / 2 ^ (64 * k) % 2 ^ 64 : Nat) : Int)
def wordOf (X k : Nat) : Nat := X / 2 ^ (64 * k) % 2 ^ 64
def SetBits (X Y p w n : Nat) : Prop := ∀ j, Y.testBit j = if p ≤ j ∧ j < p + w then n.testBit (j - p) else X.testBit j
theorem wrap_nat (y : Nat) : IntKind.u64.wrap (y : Int) = ((y % 2 ^ 64 : Nat) : Int) := by
  unfold IntKind.wrap
  have e : IntKind.u64.bits = 64 := rfl
  have e2 : IntKind.u64.signed = false := rfl
  rw [e, e2]
  simp
theorem wrap_mul (x k : Nat) : IntKind.u64.wrap ((x : Int) * 2 ^ k) = ((x * 2 ^ k % 2 ^ 64 : Nat) : Int) := by
  rw [show ((x : Int) * 2 ^ k) = ((x * 2 ^ k : Nat) : Int) by simp, wrap_nat]
theorem div_nat (x k : Nat) : (x : Int) / 2 ^ k = ((x / 2 ^ k : Nat) : Int) := by simp
end Go.Proofs.Ytpkfddfkacijoaa

namespace Go.Proofs.Ytpkfddfkacijoaa
open Go.Eng
set_option linter.unusedSimpArgs false
set_option linter.unusedVariables false
def nl (N : List Nat) : List Int := N.map fun n : Nat => (n : Int)
theorem nl_len (N : List Nat) : (nl N).length = N.length := by simp [nl]
theorem nl_get (N : List Nat) (i : Nat) : (nl N).getD i 0 = ((N.getD i 0 : Nat) : Int) := by
  simp only [nl, List.getD_eq_getElem?_getD, List.getElem?_map]
  cases N[i]? <;> rfl
theorem nl_set (N : List Nat) (i x : Nat) : (nl N).set i (x : Int) = nl (N.set i x) := by simp [nl, List.map_set]
theorem nl_rep (n : Nat) : List.replicate n (0 : Int) = nl (List.replicate n 0) := by simp [nl]
def nwd (n w : Nat) : Nat := (n * w + 63) / 64
theorem getD_set_ne {L : List Int} {k j : Nat} {x : Int} (h : k ≠ j) : (L.set k x).getD j 0 = L.getD j 0 := by simp only [List.getD_eq_getElem?_getD]; rw [List.getElem?_set_ne h]
end Go.Proofs.Ytpkfddfkacijoaa

namespace Go.Proofs.Ytpkfddfkacijoaa
open Go.Eng
set_option linter.unusedSimpArgs false
set_option linter.unusedVariables false
def wbits (w : Nat) (N : List Nat) : List Bool := N.flatMap fun x => numBits x w
theorem wbits_app (w : Nat) (N M : List Nat) : wbits w (N ++ M) = wbits w N ++ wbits w M := by simp [wbits]
theorem numBits_add (a r m : Nat) : numBits (a * 2 ^ m + r) m = numBits r m := by
  apply List.ext_getElem (by rw [numBits_len, numBits_len])
  intro i h1 h2
  rw [numBits_len] at h1
  rw [numBits_get _ _ _ h1, numBits_get _ _ _ h1, decide_eq_decide]
  have e : a * 2 ^ m + r = r + 2 ^ (m - 1 - i) * (2 ^ i * a * 2) := by
    have : 2 ^ m = 2 ^ (m - 1 - i) * 2 ^ i * 2 := by rw [← Nat.pow_add, ← Nat.pow_succ]; congr 1; omega
    rw [this, Nat.add_comm]
    congr 1
    simp only [Nat.mul_assoc, Nat.mul_comm, Nat.mul_left_comm]
  rw [e, Nat.add_mul_div_left _ _ (Nat.two_pow_pos _), Nat.add_mul_mod_self_right]
theorem numBits_numOf : ∀ l : List Bool, numBits (numOf l) l.length = l
  | [] => rfl
  | x :: l => by
    have ih := numBits_numOf l
    have hl := numOf_lt l
    have e : numOf (x :: l) = x.toNat * 2 ^ l.length + numOf l := by
      have := numOf_app [x] l
      simpa [numOf] using this
    show decide (numOf (x :: l) / 2 ^ l.length % 2 = 1) :: numBits (numOf (x :: l)) l.length = x :: l
    rw [e, numBits_add, ih]
    congr 1
    rw [Nat.mul_comm, Nat.mul_add_div (Nat.two_pow_pos _), Nat.div_eq_of_lt hl]
    cases x <;> simp
def chunk (L : List Bool) (p w n : Nat) : List Nat := (List.range n).map fun i => numOf ((L.drop (p + i * w)).take w)
theorem chunk_succ (L : List Bool) (p w n : Nat) : chunk L p w (n + 1) = chunk L p w n ++ [numOf ((L.drop (p + n * w)).take w)] := by simp [chunk, List.range_succ]
end Go.Proofs.Ytpkfddfkacijoaa
