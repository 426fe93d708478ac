import Derived.Test.YteookgjmohokiaaGreatE8
import Derived.Test.YteookgjmohokiaaGreatE6
import Derived.Laws.Externs
import Derived.Test.YteookgjmohokiaaGreatE7
import Derived.Test.YteookgjmohokiaaGreatWb
namespace Go.Proofs.YteookgjmohokiaaGreat
open Go.Eng
set_option linter.unusedSimpArgs false
set_option linter.unusedVariables false
def valB (B : Nat) : List Nat → Nat
  | [] => 0
  | d :: l => d + B * valB B l
def dgB (B : Nat) (n : Nat) : List Nat := if h : n = 0 ∨ B < 2 then [] else n % B :: dgB B (n / B)
termination_by n
decreasing_by exact Nat.div_lt_self (by omega) (by omega)
theorem dgB_zero (B : Nat) : dgB B 0 = [] := by unfold dgB; simp
theorem dgB_pos {B n : Nat} (hB : 2 ≤ B) (h : n ≠ 0) : dgB B n = n % B :: dgB B (n / B) := by
  conv => lhs; unfold dgB
  rw [dif_neg (by omega)]
theorem setB {B : Nat} {l : List Nat} {i x : Nat} (h : ∀ d ∈ l, d < B) (hx : x < B) : ∀ d ∈ l.set i x, d < B := fun y hy => by
  rcases List.mem_or_eq_of_mem_set hy with h' | h'
  · exact h y h'
  · rw [h']; exact hx
theorem nl_nil : nl [] = [] := rfl
attribute [go_sem] nl_nil
def cmpI (a b : Nat) : Int := if a < b then -1 else if b < a then 1 else 0
end Go.Proofs.YteookgjmohokiaaGreat

namespace Go.Eng
open Go.Vx
set_option linter.unusedSimpArgs false
set_option linter.unusedVariables false
def sub64E : Array Value → Sem Value := (Extern.MathBitsCarry.rows.getD 1 ("", fun _ => stuck "")).2
end Go.Eng

namespace Go.Proofs.YteookgjmohokiaaGreat
open Go.Eng Go.Vx
set_option linter.unusedSimpArgs false
set_option linter.unusedVariables false
set_option maxRecDepth 100000
def wg (n : Nat) : List Nat := dgB 18446744073709551616 n
def NV (n : Nat) : V := .agg [.row 1 ((nl (wg n)).map (ie .u64))]
attribute [go_sem] NV
end Go.Proofs.YteookgjmohokiaaGreat

namespace Go.Proofs.YteookgjmohokiaaGreat
open Go.Eng Go.Vx
set_option linter.unusedSimpArgs false
set_option linter.unusedVariables false
set_option maxRecDepth 100000
def pad (L : List Nat) (k : Nat) : List Nat := L ++ List.replicate (k - L.length) 0
end Go.Proofs.YteookgjmohokiaaGreat

namespace Go.Proofs.YteookgjmohokiaaGreat
open Go.Eng Go.Vx
set_option linter.unusedSimpArgs false
set_option linter.unusedVariables false
set_option maxRecDepth 100000
end Go.Proofs.YteookgjmohokiaaGreat

namespace Go.Proofs.YteookgjmohokiaaGreat
open Go.Eng Go.Vx
set_option linter.unusedSimpArgs false
set_option linter.unusedVariables false
set_option maxRecDepth 100000
theorem tab_ix {s : ByteArray} {z : Nat} {F : Bool → V → Prop} (h : ∀ z : Fin 256, strAt s z.val = bl z.val) (hs : s.size = 256) (hz : z < 256) :
    ixvV Tryz.prog 9 (.lit (.string s)) (.lit (.int .u8 (z : Int))) F = F true (.lit (.int .u8 (bl z : Int))) := by
  rw [vis_9 (by omega), show ((z : Nat) : Int).toNat = z by omega, h ⟨z, hz⟩]
theorem len64_fn {n : Nat} (hn : n < 18446744073709551616) : Fn1 Tryz.prog 53 [.lit (.int .u64 n)] [] (.lit (.int .i64 (bl n : Int))) [] := by
  refine fn1N_of pl53 (by kernel_rfl) Tryz.call53 Tryz.func53 rfl (by kernel_rfl) rfl [.tmp 2] (by kernel_rfl) fun Q hQ => ?_
  obtain ⟨c, hc⟩ : ∃ c : Int, c = bl n := ⟨_, rfl⟩
  rw [← hc] at hQ
  by_cases h32 : 4294967296 ≤ n
  case' pos =>
    have e1 := bl_div (n := n) (k := 32) h32
    refine runW ?_
    rw [show (n : Int) / 4294967296 = ((n / 2 ^ 32 : Nat) : Int) by omega]
    have hx : n / 2 ^ 32 < 4294967296 := by omega
    generalize n / 2 ^ 32 = x at *
  case' neg =>
    refine runW ?_
    have hx : n < 4294967296 := by omega
    have e1 : bl n = 0 + bl n := by omega
    obtain ⟨x, rfl⟩ : ∃ x, x = n := ⟨_, rfl⟩
  all_goals
    by_cases h16 : 65536 ≤ x
    case' pos =>
      have e2 := bl_div (n := x) (k := 16) h16
      refine runW ?_
      rw [show (x : Int) / 65536 = ((x / 2 ^ 16 : Nat) : Int) by omega]
      have hy : x / 2 ^ 16 < 65536 := by omega
      generalize x / 2 ^ 16 = y at *
    case' neg =>
      refine runW ?_
      have hy : x < 65536 := by omega
      have e2 : bl x = 0 + bl x := by omega
      obtain ⟨y, rfl⟩ : ∃ y, y = x := ⟨_, rfl⟩
  all_goals
    by_cases h8 : 256 ≤ y
    case' pos =>
      have e3 := bl_div (n := y) (k := 8) h8
      refine runW ?_
      rw [show (y : Int) / 256 = ((y / 2 ^ 8 : Nat) : Int) by omega]
      have hz : y / 2 ^ 8 < 256 := by omega
      generalize y / 2 ^ 8 = z at *
    case' neg =>
      refine runW ?_
      have hz : y < 256 := by omega
      have e3 : bl y = 0 + bl y := by omega
      obtain ⟨z, rfl⟩ : ∃ z, z = y := ⟨_, rfl⟩
  all_goals
    have hb8 := bl_le_of (n := z) (k := 8) hz
    rw [tab_ix (of_decide_eq_true (by kernel_rfl)) (by kernel_rfl) hz]
    refine runW ?_
    exact endW [] hQ
end Go.Proofs.YteookgjmohokiaaGreat

namespace Go.Proofs.YteookgjmohokiaaGreat
open Go.Eng Go.Vx
set_option linter.unusedSimpArgs false
set_option linter.unusedVariables false
set_option maxRecDepth 100000

theorem refSame_fn {A B : List Int} (hA : A.length ≤ 1099511627776) (hB : B.length ≤ 1099511627776) : Fn1 Tryz.prog 15 [.row 1 (A.map (ie .u8)), .row 1 (B.map (ie .u8))] [] (.lit (.bool (decide (A = B)))) [] := by
  refine fn1N_of pl15 (by kernel_rfl) Tryz.call15 Tryz.func15 rfl (by kernel_rfl) rfl [.tmp 4] (by kernel_rfl) fun Q hQ => ?_
  by_cases hl : A.length = B.length
  · simp (maxSteps := 1000000) (disch := (first | omega | (simp only [lnA, List.length_map, List.length_range, true_and, and_true]; (try omega); done) | fail)) only [go_sem, Int.reduceEq, Int.reduceToNat, Nat.reduceAdd, Nat.reduceMul, Nat.reduceEqDiff, ↓reduceIte]
    refine loopW (X := Nat) (st := fun i => ([(0, .row 1 (A.map (ie .u8))), (1, .row 1 (B.map (ie .u8))), (5, .lit (.int .i64 (i : Int)))], []))
      (inv := fun i => i ≤ A.length ∧ A.take i = B.take i) (m := fun i => A.length - i) 0 [] ⟨Nat.zero_le _, by simp⟩ ?_
    rintro i ⟨hi, hs⟩
    by_cases hil : i < A.length
    · by_cases hx : A.getD i 0 = B.getD i 0
      · simp (maxSteps := 1000000) (disch := (first | omega | (simp only [lnA, List.length_map, List.length_range, true_and, and_true]; (try omega); done) | fail)) only [go_sem, hx, decide_true, Bool.not_true, Int.reduceEq, Int.reduceToNat, Nat.reduceAdd, Nat.reduceMul, Nat.reduceEqDiff, ↓reduceIte]
        refine nextW (i + 1) [] ⟨by omega, ?_⟩ (by omega)
        rw [take_succ_getD _ _ hil, take_succ_getD _ _ (by omega), hs]
        have : A.getD i default = B.getD i default := hx
        rw [this]
      · simp (maxSteps := 1000000) (disch := (first | omega | (simp only [lnA, List.length_map, List.length_range, true_and, and_true]; (try omega); done) | fail)) only [go_sem, hx, decide_false, Bool.not_false, Int.reduceEq, Int.reduceToNat, Nat.reduceAdd, Nat.reduceMul, Nat.reduceEqDiff, ↓reduceIte]
        have : decide (A = B) = false := decide_eq_false fun e => hx (by rw [e])
        rw [this] at hQ
        exact endW [] hQ
    · simp (maxSteps := 1000000) (disch := (first | omega | (simp only [lnA, List.length_map, List.length_range, true_and, and_true]; (try omega); done) | fail)) only [go_sem, Int.reduceEq, Int.reduceToNat, Nat.reduceAdd, Nat.reduceMul, Nat.reduceEqDiff, ↓reduceIte]
      obtain rfl : i = A.length := by omega
      rw [List.take_of_length_le (by omega), List.take_of_length_le (by omega)] at hs
      rw [decide_eq_true hs] at hQ
      exact endW [] hQ
  · simp (maxSteps := 1000000) (disch := (first | omega | (simp only [lnA, List.length_map, List.length_range, true_and, and_true]; (try omega); done) | fail)) only [go_sem, Int.reduceEq, Int.reduceToNat, Nat.reduceAdd, Nat.reduceMul, Nat.reduceEqDiff, ↓reduceIte]
    have : decide (A = B) = false := decide_eq_false fun e => hl (by rw [e])
    rw [this] at hQ
    exact endW [] hQ
end Go.Proofs.YteookgjmohokiaaGreat

namespace Go.Proofs.YteookgjmohokiaaGreat
open Go.Eng
set_option linter.unusedSimpArgs false
set_option linter.unusedVariables false
end Go.Proofs.YteookgjmohokiaaGreat

namespace Go.Proofs.YteookgjmohokiaaGreat
open Go.Eng
set_option linter.unusedSimpArgs false
set_option linter.unusedVariables false
def fw (B : Nat) : Nat → Nat → List Nat
  | 0, _ => []
  | k + 1, v => v % B :: fw B k (v / B)
def prt (P N T : List Nat) : List Nat := P ++ (N ++ T.drop N.length)
end Go.Proofs.YteookgjmohokiaaGreat

namespace Go.Proofs.YteookgjmohokiaaGreat
open Go.Eng
set_option linter.unusedSimpArgs false
set_option linter.unusedVariables false
end Go.Proofs.YteookgjmohokiaaGreat

namespace Go.Proofs.YteookgjmohokiaaGreat
open Go.Eng
set_option linter.unusedSimpArgs false
set_option linter.unusedVariables false
def longV (B A D k : Nat) : Nat := A / B ^ k % D * B ^ k + A % B ^ k
end Go.Proofs.YteookgjmohokiaaGreat

namespace Go.Proofs.YteookgjmohokiaaGreat
open Go.Eng
end Go.Proofs.YteookgjmohokiaaGreat

namespace Go.Proofs.YteookgjmohokiaaGreat
open Go.Eng Go.Vx
set_option linter.unusedSimpArgs false
set_option linter.unusedVariables false
set_option maxRecDepth 100000
def tpC (L : List Bool) (p : Nat) (d : Bool) : Ob := .cells [.lit (.int .i64 (p : Int)), .lit (.bool d), .row 1 (L.map be)]
def tpP (L : List Bool) (p : Nat) (d : Bool) : V := .rref 3 [[.lit (.int .i64 (p : Int)), .lit (.bool d), .row 1 (L.map be)]] 0 0
attribute [go_sem] tpC tpP
end Go.Proofs.YteookgjmohokiaaGreat

namespace Go.Proofs.YteookgjmohokiaaGreat
open Go.Eng Go.Vx
set_option linter.unusedSimpArgs false
set_option linter.unusedVariables false
set_option maxRecDepth 100000
end Go.Proofs.YteookgjmohokiaaGreat

namespace Go.Proofs.YteookgjmohokiaaGreat
open Go.Eng Go.Vx
set_option linter.unusedSimpArgs false
set_option linter.unusedVariables false
set_option maxRecDepth 100000
end Go.Proofs.YteookgjmohokiaaGreat
