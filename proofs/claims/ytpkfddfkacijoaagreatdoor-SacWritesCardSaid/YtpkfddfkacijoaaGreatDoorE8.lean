import Derived.Test.YtpkfddfkacijoaaGreatDoorE7
import Derived.Test.YtpkfddfkacijoaaGreatDoorE6
namespace Go.Proofs.YtpkfddfkacijoaaGreatDoor
open Go.Eng
set_option linter.unusedSimpArgs false
set_option linter.unusedVariables false
def packN (w : Nat) : List Nat → Nat
 | [] => 0
 | x :: l => x + 2 ^ w * packN w l
def words (m X : Nat) : List Int := (List.range m).map fun k => ((X / 2 ^ (64 * k) % 2 ^ 64 : Nat) : Int)
def wordOf (X k : Nat) : Nat := X / 2 ^ (64 * k) % 2 ^ 64
def SetBits (X Y p w n : Nat) : Prop := ∀ j, Y.testBit j = if p ≤ j ∧ j < p + w then n.testBit (j - p) else X.testBit j
theorem wrap_nat (y : Nat) : IntKind.u64.wrap (y : Int) = ((y % 2 ^ 64 : Nat) : Int) := by
 unfold IntKind.wrap
 have e : IntKind.u64.bits = 64 := rfl
 have e2 : IntKind.u64.signed = false := rfl
 rw [e, e2]
 simp
theorem wrap_mul (x k : Nat) : IntKind.u64.wrap ((x : Int) * 2 ^ k) = ((x * 2 ^ k % 2 ^ 64 : Nat) : Int) := by
 rw [show ((x : Int) * 2 ^ k) = ((x * 2 ^ k : Nat) : Int) by simp, wrap_nat]
theorem div_nat (x k : Nat) : (x : Int) / 2 ^ k = ((x / 2 ^ k : Nat) : Int) := by simp
end Go.Proofs.YtpkfddfkacijoaaGreatDoor

namespace Go.Proofs.YtpkfddfkacijoaaGreatDoor
open Go.Eng
set_option linter.unusedSimpArgs false
set_option linter.unusedVariables false
def nl (N : List Nat) : List Int := N.map fun n : Nat => (n : Int)
theorem nl_len (N : List Nat) : (nl N).length = N.length := by simp [nl]
theorem nl_get (N : List Nat) (i : Nat) : (nl N).getD i 0 = ((N.getD i 0 : Nat) : Int) := by
 simp only [nl, List.getD_eq_getElem?_getD, List.getElem?_map]
 cases N[i]? <;> rfl
theorem nl_set (N : List Nat) (i x : Nat) : (nl N).set i (x : Int) = nl (N.set i x) := by simp [nl, List.map_set]
theorem nl_rep (n : Nat) : List.replicate n (0 : Int) = nl (List.replicate n 0) := by simp [nl]
def nwd (n w : Nat) : Nat := (n * w + 63) / 64
theorem getD_set_ne {L : List Int} {k j : Nat} {x : Int} (h : k ≠ j) : (L.set k x).getD j 0 = L.getD j 0 := by simp only [List.getD_eq_getElem?_getD]; rw [List.getElem?_set_ne h]
end Go.Proofs.YtpkfddfkacijoaaGreatDoor

namespace Go.Proofs.YtpkfddfkacijoaaGreatDoor
open Go.Eng
set_option linter.unusedSimpArgs false
set_option linter.unusedVariables false
def wbits (w : Nat) (N : List Nat) : List Bool := N.flatMap fun x => numBits x w
theorem wbits_app (w : Nat) (N M : List Nat) : wbits w (N ++ M) = wbits w N ++ wbits w M := by simp [wbits]
theorem numBits_add (a r m : Nat) : numBits (a * 2 ^ m + r) m = numBits r m := by
 apply List.ext_getElem (by rw [numBits_len, numBits_len])
 intro i h1 h2
 rw [numBits_len] at h1
 rw [numBits_get _ _ _ h1, numBits_get _ _ _ h1, decide_eq_decide]
 have e : a * 2 ^ m + r = r + 2 ^ (m - 1 - i) * (2 ^ i * a * 2) := by
  have : 2 ^ m = 2 ^ (m - 1 - i) * 2 ^ i * 2 := by rw [← Nat.pow_add, ← Nat.pow_succ]; congr 1; omega
  rw [this, Nat.add_comm]
  congr 1
  simp only [Nat.mul_assoc, Nat.mul_comm, Nat.mul_left_comm]
 rw [e, Nat.add_mul_div_left _ _ (Nat.two_pow_pos _), Nat.add_mul_mod_self_right]
theorem numBits_numOf : ∀ l : List Bool, numBits (numOf l) l.length = l
 | [] => rfl
 | x :: l => by
  have ih := numBits_numOf l
  have hl := numOf_lt l
  have e : numOf (x :: l) = x.toNat * 2 ^ l.length + numOf l := by
   have := numOf_app [x] l
   simpa [numOf] using this
  show decide (numOf (x :: l) / 2 ^ l.length % 2 = 1) :: numBits (numOf (x :: l)) l.length = x :: l
  rw [e, numBits_add, ih]
  congr 1
  rw [Nat.mul_comm, Nat.mul_add_div (Nat.two_pow_pos _), Nat.div_eq_of_lt hl]
  cases x <;> simp
def chunk (L : List Bool) (p w n : Nat) : List Nat := (List.range n).map fun i => numOf ((L.drop (p + i * w)).take w)
theorem chunk_succ (L : List Bool) (p w n : Nat) : chunk L p w (n + 1) = chunk L p w n ++ [numOf ((L.drop (p + n * w)).take w)] := by simp [chunk, List.range_succ]
theorem numOf_take_lt (L : List Bool) (w : Nat) : numOf (L.take w) < 2 ^ w := Nat.lt_of_lt_of_le (numOf_lt _) (Nat.pow_le_pow_right (by decide) (by simp; omega))
end Go.Proofs.YtpkfddfkacijoaaGreatDoor

namespace Go.Proofs.YtpkfddfkacijoaaGreatDoor
open Go.Eng Go.Vx
set_option linter.unusedSimpArgs false
set_option linter.unusedVariables false
set_option maxRecDepth 100000
theorem cloneL_fn {B : List Bool} (hB : B.length ≤ 140737488355327) : Fn1 Tryz.prog 77 [.row 1 (B.map be)] [] (.row 1 (B.map be)) [] := by
 refine fn1N_of pl77 (by kernel_rfl) Tryz.call77 Tryz.func77 rfl (by kernel_rfl) rfl [.tmp 2] (by kernel_rfl) fun Q hQ => ?_
 by_cases h : B = []
 ·
  subst h
  simp (maxSteps := 1000000) (disch := (first | omega | (simp only [lnA, List.length_map, List.length_range, true_and, and_true]; (try omega); done) | fail)) only [go_sem, List.isEmpty_nil, Int.reduceEq, Int.reduceToNat, Nat.reduceAdd, Nat.reduceMul, Nat.reduceEqDiff, ↓reduceIte]
  refine nilB_both ?_ ?_
  ·
   refine runW ?_
   exact endW [] hQ
  ·
   refine runW ?_
   exact endW [] hQ
 ·
  have he : (B.map be).isEmpty = false := by simp [h]
  simp (maxSteps := 1000000) (disch := (first | omega | (simp only [lnA, List.length_map, List.length_range, true_and, and_true]; (try omega); done) | fail)) only [go_sem, he, Int.reduceEq, Int.reduceToNat, Nat.reduceAdd, Nat.reduceMul, Nat.reduceEqDiff, ↓reduceIte]
  exact endW [] hQ
def tpC (L : List Bool) (p : Nat) (d : Bool) : Ob := .cells [.lit (.int .i64 (p : Int)), .lit (.bool d), .row 1 (L.map be)]
def tpP (L : List Bool) (p : Nat) (d : Bool) : V := .rref 3 [[.lit (.int .i64 (p : Int)), .lit (.bool d), .row 1 (L.map be)]] 0 0
attribute [go_sem] tpC tpP
theorem newT_fn {L : List Bool} (hL : L.length ≤ 1048576) : Fn1 Tryz.prog 39 [.row 1 (L.map be)] [] (.ref 0 0 0 0) [some (tpC L 0 false)] := by
 refine fn1N_of pl39 (by kernel_rfl) Tryz.call39 Tryz.func39 rfl (by kernel_rfl) rfl [.tmp 2] (by kernel_rfl) fun Q hQ => ?_
 have hm : min (L.length : Int) 1048576 = (L.length : Int) := by omega
 simp (maxSteps := 1000000) (disch := (first | omega | (simp only [lnA, List.length_map, List.length_range, true_and, and_true]; (try omega); done) | fail)) only [go_sem, hm, List.take_length, Int.reduceEq, Int.reduceToNat, Nat.reduceAdd, Nat.reduceMul, Nat.reduceEqDiff, ↓reduceIte]
 refine callV0 (cloneL_fn (B := L) (by omega)) rfl rfl ?_
 refine runW ?_
 exact endW [some 0] hQ
theorem readT_fn {L : List Bool} {p : Nat} {d : Bool} : Fn1 Tryz.prog 44 [tpP L p d] [] (.lit (.int .i64 (p : Int))) [] := by
 refine fn1N_of pl44 (by kernel_rfl) Tryz.call44 Tryz.func44 rfl (by kernel_rfl) rfl [.tmp 2] (by kernel_rfl) fun Q hQ => ?_
 refine runW ?_
 exact endW [] hQ
theorem flip_fn {L : List Bool} {p : Nat} (hL : L.length ≤ 1048576) (hp : p < L.length) : Fn1 Tryz.prog 103 [.ref 0 0 0 0] [some (tpC L p false)] (.tup [.lit (.bool (L.getD p false)), .lit (.int .i64 0)]) [some (tpC L (p + 1) false)] := by
 refine fn1N_of pl103 (by kernel_rfl) Tryz.call103 Tryz.func103 rfl (by kernel_rfl) rfl [.tmp 2, .tmp 3] (by kernel_rfl) fun Q hQ => ?_
 have hp1 : (((p : Int) + 1) - 1).toNat = p := by omega
 simp (maxSteps := 1000000) (disch := (first | omega | (simp only [lnA, List.length_map, List.length_range, true_and, and_true]; (try omega); done) | fail)) only [go_sem, hp1, Int.reduceEq, Int.reduceToNat, Nat.reduceAdd, Nat.reduceMul, Nat.reduceEqDiff, ↓reduceIte]
 exact endW [some 0] hQ
theorem flipE_fn {L : List Bool} {p : Nat} {d : Bool} (hL : L.length ≤ 1048576) (h : d = true ∨ p = L.length) : Fn1 Tryz.prog 103 [.ref 0 0 0 0] [some (tpC L p d)] (.tup [.lit (.bool false), .lit (.int .i64 8)]) [some (tpC L p true)] := by
 refine fn1N_of pl103 (by kernel_rfl) Tryz.call103 Tryz.func103 rfl (by kernel_rfl) rfl [.tmp 2, .tmp 3] (by kernel_rfl) fun Q hQ => ?_
 cases d with
 | true =>
  refine runW ?_
  exact endW [some 0] hQ
 | false =>
  obtain rfl : p = L.length := by simpa using h
  refine runW ?_
  exact endW [some 0] hQ
end Go.Proofs.YtpkfddfkacijoaaGreatDoor

namespace Go.Proofs.YtpkfddfkacijoaaGreatDoor
open Go.Eng Go.Vx
set_option linter.unusedSimpArgs false
set_option linter.unusedVariables false
set_option maxRecDepth 100000
theorem deadT_fn {L : List Bool} {p : Nat} {d : Bool} : Fn1 Tryz.prog 64 [tpP L p d] [] (.lit (.bool d)) [] := by
 refine fn1N_of pl64 (by kernel_rfl) Tryz.call64 Tryz.func64 rfl (by kernel_rfl) rfl [.tmp 2] (by kernel_rfl) fun Q hQ => ?_
 refine runW ?_
 exact endW [] hQ
end Go.Proofs.YtpkfddfkacijoaaGreatDoor

namespace Go.Proofs.YtpkfddfkacijoaaGreatDoor
open Go.Eng Go.Vx
set_option linter.unusedSimpArgs false
set_option linter.unusedVariables false
set_option maxRecDepth 100000
end Go.Proofs.YtpkfddfkacijoaaGreatDoor
