import Derived.Test.YtpkfddfkacijoaaE8
import Derived.Test.YtpkfddfkacijoaaE6
namespace Go.Proofs.Ytpkfddfkacijoaa
open Go.Eng Go.Vx
set_option linter.unusedSimpArgs false
set_option linter.unusedVariables false
set_option maxRecDepth 100000
theorem cloneL_fn {B : List Bool} (hB : B.length ≤ 140737488355327) : Fn1 Try.prog 31 [.row 1 (B.map be)] [] (.row 1 (B.map be)) [] := by
  refine fn1N_of pl31 (by kernel_rfl) Try.call31 Try.func31 rfl (by kernel_rfl) rfl [.tmp 2] (by kernel_rfl) fun Q hQ => ?_
  by_cases h : B = []
  · subst h
    simp (maxSteps := 1000000) (disch := (first | omega | (simp only [lnA, List.length_map, List.length_range, true_and, and_true]; (try omega); done) | fail)) only [go_sem, List.isEmpty_nil, Int.reduceEq, Int.reduceToNat, Nat.reduceAdd, Nat.reduceMul, Nat.reduceEqDiff, ↓reduceIte]
    refine nilB_both ?_ ?_
    · refine runW ?_
      exact endW [] hQ
    · refine runW ?_
      exact endW [] hQ
  · have he : (B.map be).isEmpty = false := by simp [h]
    simp (maxSteps := 1000000) (disch := (first | omega | (simp only [lnA, List.length_map, List.length_range, true_and, and_true]; (try omega); done) | fail)) only [go_sem, he, Int.reduceEq, Int.reduceToNat, Nat.reduceAdd, Nat.reduceMul, Nat.reduceEqDiff, ↓reduceIte]
    exact endW [] hQ
def tpC (L : List Bool) (p : Nat) (d : Bool) : Ob := .cells [.lit (.int .i64 (p : Int)), .lit (.bool d), .row 1 (L.map be)]
def tpP (L : List Bool) (p : Nat) (d : Bool) : V := .rref 3 [[.lit (.int .i64 (p : Int)), .lit (.bool d), .row 1 (L.map be)]] 0 0
attribute [go_sem] tpC tpP
theorem newT_fn {L : List Bool} (hL : L.length ≤ 1048576) : Fn1 Try.prog 8 [.row 1 (L.map be)] [] (.ref 0 0 0 0) [some (tpC L 0 false)] := by
  refine fn1N_of pl8 (by kernel_rfl) Try.call8 Try.func8 rfl (by kernel_rfl) rfl [.tmp 2] (by kernel_rfl) fun Q hQ => ?_
  have hm : min (L.length : Int) 1048576 = (L.length : Int) := by omega
  simp (maxSteps := 1000000) (disch := (first | omega | (simp only [lnA, List.length_map, List.length_range, true_and, and_true]; (try omega); done) | fail)) only [go_sem, hm, List.take_length, Int.reduceEq, Int.reduceToNat, Nat.reduceAdd, Nat.reduceMul, Nat.reduceEqDiff, ↓reduceIte]
  refine callV0 (cloneL_fn (B := L) (by omega)) rfl rfl ?_
  refine runW ?_
  exact endW [some 0] hQ
theorem readT_fn {L : List Bool} {p : Nat} {d : Bool} : Fn1 Try.prog 26 [tpP L p d] [] (.lit (.int .i64 (p : Int))) [] := by
  refine fn1N_of pl26 (by kernel_rfl) Try.call26 Try.func26 rfl (by kernel_rfl) rfl [.tmp 2] (by kernel_rfl) fun Q hQ => ?_
  refine runW ?_
  exact endW [] hQ
theorem flip_fn {L : List Bool} {p : Nat} (hL : L.length ≤ 1048576) (hp : p < L.length) : Fn1 Try.prog 61 [.ref 0 0 0 0] [some (tpC L p false)] (.tup [.lit (.bool (L.getD p false)), .lit (.int .i64 0)]) [some (tpC L (p + 1) false)] := by
  refine fn1N_of pl61 (by kernel_rfl) Try.call61 Try.func61 rfl (by kernel_rfl) rfl [.tmp 2, .tmp 3] (by kernel_rfl) fun Q hQ => ?_
  have hp1 : (((p : Int) + 1) - 1).toNat = p := by omega
  simp (maxSteps := 1000000) (disch := (first | omega | (simp only [lnA, List.length_map, List.length_range, true_and, and_true]; (try omega); done) | fail)) only [go_sem, hp1, Int.reduceEq, Int.reduceToNat, Nat.reduceAdd, Nat.reduceMul, Nat.reduceEqDiff, ↓reduceIte]
  exact endW [some 0] hQ
theorem flipE_fn {L : List Bool} {p : Nat} {d : Bool} (hL : L.length ≤ 1048576) (h : d = true ∨ p = L.length) : Fn1 Try.prog 61 [.ref 0 0 0 0] [some (tpC L p d)] (.tup [.lit (.bool false), .lit (.int .i64 8)]) [some (tpC L p true)] := by
  refine fn1N_of pl61 (by kernel_rfl) Try.call61 Try.func61 rfl (by kernel_rfl) rfl [.tmp 2, .tmp 3] (by kernel_rfl) fun Q hQ => ?_
  cases d with
  | true =>
    refine runW ?_
    exact endW [some 0] hQ
  | false =>
    obtain rfl : p = L.length := by simpa using h
    refine runW ?_
    exact endW [some 0] hQ
end Go.Proofs.Ytpkfddfkacijoaa

namespace Go.Proofs.Ytpkfddfkacijoaa
open Go.Eng Go.Vx
set_option linter.unusedSimpArgs false
set_option linter.unusedVariables false
set_option maxRecDepth 100000
end Go.Proofs.Ytpkfddfkacijoaa

namespace Go.Proofs.Ytpkfddfkacijoaa
open Go.Eng Go.Vx
set_option linter.unusedSimpArgs false
set_option linter.unusedVariables false
set_option maxRecDepth 100000
end Go.Proofs.Ytpkfddfkacijoaa
