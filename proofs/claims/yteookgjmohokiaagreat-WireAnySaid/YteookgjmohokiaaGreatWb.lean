import Derived.Test.YteookgjmohokiaaGreatWa
import Derived.Test.YteookgjmohokiaaGreatE7
import Derived.Test.YteookgjmohokiaaGreatE6
namespace Go.Proofs.YteookgjmohokiaaGreat
open Go.Eng Go.Vx
set_option linter.unusedSimpArgs false
set_option linter.unusedVariables false
set_option maxRecDepth 100000

theorem cloneB_fn {B : List Int} (hB : B.length ≤ 140737488355327) : Fn1 Tryz.prog 58 [.row 1 (B.map (ie .u8))] [] (.row 1 (B.map (ie .u8))) [] := by
  refine fn1N_of pl58 (by kernel_rfl) Tryz.call58 Tryz.func58 rfl (by kernel_rfl) rfl [.tmp 2] (by kernel_rfl) fun Q hQ => ?_
  by_cases h : B = []
  · subst h
    simp (maxSteps := 1000000) (disch := (first | omega | (simp only [lnA, List.length_map, List.length_range, true_and, and_true]; (try omega); done) | fail)) only [go_sem, List.isEmpty_nil, Int.reduceEq, Int.reduceToNat, Nat.reduceAdd, Nat.reduceMul, Nat.reduceEqDiff, ↓reduceIte]
    refine nilB_both ?_ ?_
    · simp (maxSteps := 1000000) (disch := (first | omega | (simp only [lnA, List.length_map, List.length_range, true_and, and_true]; (try omega); done) | fail)) only [go_sem, Int.reduceEq, Int.reduceToNat, Nat.reduceAdd, Nat.reduceMul, Nat.reduceEqDiff, ↓reduceIte]
      exact endW [] hQ
    · simp (maxSteps := 1000000) (disch := (first | omega | (simp only [lnA, List.length_map, List.length_range, true_and, and_true]; (try omega); done) | fail)) only [go_sem, Int.reduceEq, Int.reduceToNat, Nat.reduceAdd, Nat.reduceMul, Nat.reduceEqDiff, ↓reduceIte]
      exact endW [] hQ
  · have he : (B.map (ie .u8)).isEmpty = false := by simp [h]
    simp (maxSteps := 1000000) (disch := (first | omega | (simp only [lnA, List.length_map, List.length_range, true_and, and_true]; (try omega); done) | fail)) only [go_sem, he, Int.reduceEq, Int.reduceToNat, Nat.reduceAdd, Nat.reduceMul, Nat.reduceEqDiff, ↓reduceIte]

    exact endW [] hQ
def rdC (B : List Int) (p : Nat) : Ob := .cells [.row 1 (B.map (ie .u8)), .lit (.int .i64 (p : Int))]
attribute [go_sem] rdC
theorem IsB.get {B : List Int} (h : IsB B) (i : Nat) : 0 ≤ B.getD i 0 ∧ B.getD i 0 ≤ 255 := by
  rw [List.getD_eq_getElem?_getD]
  cases hx : B[i]? with
  | none => simp
  | some x => exact h x (List.mem_of_getElem? hx)
theorem read_fn {B : List Int} (hB : B.length ≤ 1099511627776) : Fn1 Tryz.prog 36 [.row 1 (B.map (ie .u8))] [] (.ref 0 0 0 0) [some (rdC B 0)] := by
  refine fn1N_of pl36 (by kernel_rfl) Tryz.call36 Tryz.func36 rfl (by kernel_rfl) rfl [.tmp 2] (by kernel_rfl) fun Q hQ => ?_
  simp (maxSteps := 1000000) (disch := (first | omega | (simp only [lnA, List.length_map, List.length_range, true_and, and_true]; (try omega); done) | fail)) only [go_sem, Int.reduceEq, Int.reduceToNat, Nat.reduceAdd, Nat.reduceMul, Nat.reduceEqDiff, ↓reduceIte]
  refine callV0 (cloneB_fn (by omega)) rfl rfl ?_
  simp (maxSteps := 1000000) (disch := (first | omega | (simp only [lnA, List.length_map, List.length_range, true_and, and_true]; (try omega); done) | fail)) only [go_sem, Int.reduceEq, Int.reduceToNat, Nat.reduceAdd, Nat.reduceMul, Nat.reduceEqDiff, ↓reduceIte]
  exact endW [some 0] hQ
theorem left_fn {B : List Int} {p : Nat} (hB : B.length ≤ 1099511627776) (hp : p ≤ 8 * B.length) : Fn1 Tryz.prog 65 [.ref 0 0 0 0] [some (rdC B p)] (.lit (.int .i64 ((8 * B.length - p : Nat) : Int))) [some (rdC B p)] := by
  refine fn1N_of pl65 (by kernel_rfl) Tryz.call65 Tryz.func65 rfl (by kernel_rfl) rfl [.tmp 2] (by kernel_rfl) fun Q hQ => ?_
  simp (maxSteps := 1000000) (disch := (first | omega | (simp only [lnA, List.length_map, List.length_range, true_and, and_true]; (try omega); done) | fail)) only [go_sem, Int.reduceEq, Int.reduceToNat, Nat.reduceAdd, Nat.reduceMul, Nat.reduceEqDiff, ↓reduceIte]
  rw [show ((8 : Int) * (B.length : Int) - (p : Int)) = ((8 * B.length - p : Nat) : Int) by omega]
  exact endW [some 0] hQ
theorem next_fn {B : List Int} {p : Nat} (hI : IsB B) (hB : B.length ≤ 1099511627776) (hp : p < 8 * B.length) : Fn1 Tryz.prog 66 [.ref 0 0 0 0] [some (rdC B p)] (.lit (.int .u64 ((((bitsOf B).getD p false).toNat : Nat) : Int))) [some (rdC B (p + 1))] := by
  refine fn1N_of pl66 (by kernel_rfl) Tryz.call66 Tryz.func66 rfl (by kernel_rfl) rfl [.tmp 2] (by kernel_rfl) fun Q hQ => ?_
  have hx := hI.get (p / 8)
  have e0 : ((p : Int) / 8).toNat = p / 8 := by omega
  have e1 : (7 - (p : Int) % 8).toNat = 7 - p % 8 := by omega
  have hq : 0 ≤ B.getD (p / 8) 0 / 2 ^ (7 - p % 8) % 2 ∧ B.getD (p / 8) 0 / 2 ^ (7 - p % 8) % 2 ≤ 1 := by
    have := Int.emod_nonneg (B.getD (p / 8) 0 / 2 ^ (7 - p % 8)) (show (2 : Int) ≠ 0 by decide)
    have := Int.emod_lt_of_pos (B.getD (p / 8) 0 / 2 ^ (7 - p % 8)) (show (0 : Int) < 2 by decide)
    omega
  have hb := bit01 _ (bitB B p) rfl
  rw [bitsOf_get B p hp] at hQ
  rw [← hb] at hQ
  simp (maxSteps := 1000000) (disch := (first | omega | (simp only [lnA, List.length_map, List.length_range, true_and, and_true]; (try omega); done) | fail)) only [go_sem, e0, e1, Int.reduceEq, Int.reduceToNat, Nat.reduceAdd, Nat.reduceMul, Nat.reduceEqDiff, ↓reduceIte]
  exact endW [some 0] hQ
theorem brnum_fn {B : List Int} {p w : Nat} (hI : IsB B) (hB : B.length ≤ 1099511627776) (hw : w ≤ 64) (hp : p + w ≤ 8 * B.length) : Fn1 Tryz.prog 37 [.ref 0 0 0 0, .lit (.int .i64 (w : Int))] [some (rdC B p)] (.tup [.lit (.int .u64 (numOf (((bitsOf B).drop p).take w) : Int)), .lit (.int .i64 0)]) [some (rdC B (p + w))] := by
  refine fn1N_of pl37 (by kernel_rfl) Tryz.call37 Tryz.func37 rfl (by kernel_rfl) rfl [.tmp 4, .tmp 5] (by kernel_rfl) fun Q hQ => ?_
  simp (maxSteps := 1000000) (disch := (first | omega | (simp only [lnA, List.length_map, List.length_range, true_and, and_true]; (try omega); done) | fail)) only [go_sem, Int.reduceEq, Int.reduceToNat, Nat.reduceAdd, Nat.reduceMul, Nat.reduceEqDiff, ↓reduceIte]
  refine callV0 (bgood_fn) rfl rfl ?_
  rw [decide_eq_true (show (0 : Int) ≤ (w : Int) ∧ (w : Int) ≤ 64 by omega)]
  simp (maxSteps := 1000000) (disch := (first | omega | (simp only [lnA, List.length_map, List.length_range, true_and, and_true]; (try omega); done) | fail)) only [go_sem, Bool.not_true, Int.reduceEq, Int.reduceToNat, Nat.reduceAdd, Nat.reduceMul, Nat.reduceEqDiff, ↓reduceIte]
  refine callW [some 0] [] (left_fn (p := p) hB (by omega)) ?_
  simp (maxSteps := 1000000) (disch := (first | omega | (simp only [lnA, List.length_map, List.length_range, true_and, and_true]; (try omega); done) | fail)) only [go_sem, Int.reduceEq, Int.reduceToNat, Nat.reduceAdd, Nat.reduceMul, Nat.reduceEqDiff, ↓reduceIte]
  refine LoopV_of (X := Nat) (st := fun i => ([(0, .ref 0 0 0 0), (6, .lit (.int .u64 (numOf (((bitsOf B).drop p).take i) : Int))), (16, .lit (.int .i64 w)), (17, .lit (.int .i64 (i : Int)))], [some (rdC B (p + i))]))
    (inv := fun i => i ≤ w) (m := fun i => w - i) 0 [some 0] rfl (by simp (maxSteps := 1000000) (disch := (first | omega | (simp only [lnA, List.length_map, List.length_range, true_and, and_true]; (try omega); done) | fail)) only [go_sem, Int.reduceEq, Int.reduceToNat, Nat.reduceAdd, Nat.reduceMul, Nat.reduceEqDiff, ↓reduceIte]; simp) (by simp (maxSteps := 1000000) (disch := (first | omega | (simp only [lnA, List.length_map, List.length_range, true_and, and_true]; (try omega); done) | fail)) only [go_sem, Int.reduceEq, Int.reduceToNat, Nat.reduceAdd, Nat.reduceMul, Nat.reduceEqDiff, ↓reduceIte]; simp [numOf]) (Nat.zero_le _) ?_
  intro i hi
  have hbl := bitsOf_len B
  by_cases hil : i < w
  · simp (maxSteps := 1000000) (disch := (first | omega | (simp only [lnA, List.length_map, List.length_range, true_and, and_true]; (try omega); done) | fail)) only [go_sem, Int.reduceEq, Int.reduceToNat, Nat.reduceAdd, Nat.reduceMul, Nat.reduceEqDiff, ↓reduceIte]
    refine callW [some 0] [] (next_fn (p := p + i) hI hB (by omega)) ?_
    simp (maxSteps := 1000000) (disch := (first | omega | (simp only [lnA, List.length_map, List.length_range, true_and, and_true]; (try omega); done) | fail)) only [go_sem, Int.reduceEq, Int.reduceToNat, Nat.reduceAdd, Nat.reduceMul, Nat.reduceEqDiff, ↓reduceIte]
    refine NextV_of (i + 1) [some 0] rfl ?_ ?_ (by omega) (by omega)
    · (simp (disch := (first | omega | (simp only [lnA, List.length_map, List.length_range, true_and, and_true]; (try omega); done) | fail)) only [go_sem, Int.reduceEq, Int.reduceToNat, Nat.reduceAdd, Nat.reduceMul, Nat.reduceEqDiff, ↓reduceIte, true_and, and_true, and_self, List.drop_zero, List.take_length, Nat.le_refl, V.lit.injEq, Value.int.injEq, Value.bool.injEq]; try (first | omega | (simp; done) | (simp; omega)))
    · dsimp only
      have hlt := numOf_lt (((bitsOf B).drop p).take i)
      have hlt2 : numOf (((bitsOf B).drop p).take i) < 9223372036854775808 := Nat.lt_of_lt_of_le hlt (by
        have : ((((bitsOf B).drop p).take i)).length ≤ 63 := by simp; omega
        exact Nat.pow_le_pow_right (n := 2) (by decide) this)
      simp (maxSteps := 1000000) (disch := (first | omega | (simp only [lnA, List.length_map, List.length_range, true_and, and_true]; (try omega); done) | fail)) only [go_sem, and_self, Int.reduceEq, Int.reduceToNat, Nat.reduceAdd, Nat.reduceMul, Nat.reduceEqDiff, ↓reduceIte]
      rw [take_snoc (by omega), numOf_snoc, bit_or' _ _ hlt2]
      simp
  · simp (maxSteps := 1000000) (disch := (first | omega | (simp only [lnA, List.length_map, List.length_range, true_and, and_true]; (try omega); done) | fail)) only [go_sem, Int.reduceEq, Int.reduceToNat, Nat.reduceAdd, Nat.reduceMul, Nat.reduceEqDiff, ↓reduceIte]
    obtain rfl : i = w := by omega
    exact endW [some 0] hQ
end Go.Proofs.YteookgjmohokiaaGreat
