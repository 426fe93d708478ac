import Derived.Test.YtpkfddfkacijoaaGreatDoorWb
namespace Go.Proofs.YtpkfddfkacijoaaGreatDoor
open Go.Eng Go.Vx
set_option linter.unusedSimpArgs false
set_option linter.unusedVariables false
set_option maxRecDepth 100000

theorem refBits_fn {B : List Int} (hI : IsB B) (hB : B.length ≤ 1099511627776) : Fn1 Tryz.prog 33 [.row 1 (B.map (ie .u8))] [] (.row 1 ((bitsOf B).map be)) [] := by
 refine fn1N_of pl33 (by kernel_rfl) Tryz.call33 Tryz.func33 rfl (by kernel_rfl) rfl [.tmp 2] (by kernel_rfl) fun Q hQ => ?_
 simp (maxSteps := 1000000) (disch := (first | omega | (simp only [lnA, List.length_map, List.length_range, true_and, and_true]; (try omega); done) | fail)) only [go_sem, Int.reduceEq, Int.reduceToNat, Nat.reduceAdd, Nat.reduceMul, Nat.reduceEqDiff, ↓reduceIte]
 refine LoopV_of (X := Nat) (st := fun i => ([(0, .row 1 (B.map (ie .u8))), (3, .sl 0 1 0 (8 * i)), (4, .lit (.int .i64 (i : Int)))], [some (.row 1 (((bitsOf B).take (8 * i)).map be))]))
  (inv := fun i => i ≤ B.length) (m := fun i => B.length - i) 0 [none] rfl (by simp (maxSteps := 1000000) (disch := (first | omega | (simp only [lnA, List.length_map, List.length_range, true_and, and_true]; (try omega); done) | fail)) only [go_sem, Int.reduceEq, Int.reduceToNat, Nat.reduceAdd, Nat.reduceMul, Nat.reduceEqDiff, ↓reduceIte]; simp) (by simp (maxSteps := 1000000) (disch := (first | omega | (simp only [lnA, List.length_map, List.length_range, true_and, and_true]; (try omega); done) | fail)) only [go_sem, Int.reduceEq, Int.reduceToNat, Nat.reduceAdd, Nat.reduceMul, Nat.reduceEqDiff, ↓reduceIte]; simp) (Nat.zero_le _) ?_
 intro i hi
 have hbl := bitsOf_len B
 by_cases hil : i < B.length
 ·
  simp (maxSteps := 1000000) (disch := (first | omega | (simp only [lnA, List.length_map, List.length_range, true_and, and_true]; (try omega); done) | fail)) only [go_sem, Int.reduceEq, Int.reduceToNat, Nat.reduceAdd, Nat.reduceMul, Nat.reduceEqDiff, ↓reduceIte]
  refine loopW (X := Nat) (st := fun j => ([(0, .row 1 (B.map (ie .u8))), (3, .sl 0 1 0 (8 * i + j)), (4, .lit (.int .i64 (i : Int))), (5, .lit (.int .i64 (7 - (j : Int))))], [some (.row 1 (((bitsOf B).take (8 * i + j)).map be))]))
   (inv := fun j => j ≤ 8) (m := fun j => 8 - j) 0 [some 0] (Nat.zero_le _) ?_
  intro j hj
  by_cases hj8 : j < 8
  ·
   have hx := hI.get i
   have e1 : (7 - (j : Int)).toNat = 7 - j := by omega
   have e2 : (8 * i + j) / 8 = i := by omega
   have e3 : (8 * i + j) % 8 = j := by omega
   have hbb : decide (B.getD i 0 / 2 ^ (7 - j) % 2 = 1) = bitB B (8 * i + j) := by unfold bitB; rw [e2, e3]
   have hq : 0 ≤ B.getD i 0 / 2 ^ (7 - j) := Int.ediv_nonneg hx.1 (by exact_mod_cast Nat.zero_le _)
   simp (maxSteps := 1000000) (disch := (first | omega | (simp only [lnA, List.length_map, List.length_range, true_and, and_true]; (try omega); done) | fail)) only [go_sem, e1, hbb, Int.reduceEq, Int.reduceToNat, Nat.reduceAdd, Nat.reduceMul, Nat.reduceEqDiff, ↓reduceIte]
   refine NextV_of (j + 1) [some 2] rfl ?_ ?_ (by omega) (by omega)
   ·
    simp (maxSteps := 1000000) (disch := (first | omega | (simp only [lnA, List.length_map, List.length_range, true_and, and_true]; (try omega); done) | fail)) only [go_sem, Int.reduceEq, Int.reduceToNat, Nat.reduceAdd, Nat.reduceMul, Nat.reduceEqDiff, ↓reduceIte]
    rw [← Nat.add_assoc, take_bits B (8 * i + j) (by omega)]
    simp
   ·
    (simp (disch := (first | omega | (simp only [lnA, List.length_map, List.length_range, true_and, and_true]; (try omega); done) | fail)) only [go_sem, Int.reduceEq, Int.reduceToNat, Nat.reduceAdd, Nat.reduceMul, Nat.reduceEqDiff, ↓reduceIte, true_and, and_true, and_self, List.drop_zero, List.take_length, Nat.le_refl, V.lit.injEq, Value.int.injEq, Value.bool.injEq]; try (first | omega | (simp; done) | (simp; omega)))
  ·
   obtain rfl : j = 8 := by omega
   simp (maxSteps := 1000000) (disch := (first | omega | (simp only [lnA, List.length_map, List.length_range, true_and, and_true]; (try omega); done) | fail)) only [go_sem, Int.reduceEq, Int.reduceToNat, Nat.reduceAdd, Nat.reduceMul, Nat.reduceEqDiff, ↓reduceIte]
   refine NextV_of (i + 1) [some 0] rfl ?_ ?_ (by omega) (by omega)
   ·
    simp (maxSteps := 1000000) (disch := (first | omega | (simp only [lnA, List.length_map, List.length_range, true_and, and_true]; (try omega); done) | fail)) only [go_sem, Int.reduceEq, Int.reduceToNat, Nat.reduceAdd, Nat.reduceMul, Nat.reduceEqDiff, ↓reduceIte]
    simp [Nat.mul_add]
   ·
    (simp (disch := (first | omega | (simp only [lnA, List.length_map, List.length_range, true_and, and_true]; (try omega); done) | fail)) only [go_sem, Int.reduceEq, Int.reduceToNat, Nat.reduceAdd, Nat.reduceMul, Nat.reduceEqDiff, ↓reduceIte, true_and, and_true, and_self, List.drop_zero, List.take_length, Nat.le_refl, V.lit.injEq, Value.int.injEq, Value.bool.injEq]; try (first | omega | (simp; done) | (simp; omega)))
 ·
  simp (maxSteps := 1000000) (disch := (first | omega | (simp only [lnA, List.length_map, List.length_range, true_and, and_true]; (try omega); done) | fail)) only [go_sem, Int.reduceEq, Int.reduceToNat, Nat.reduceAdd, Nat.reduceMul, Nat.reduceEqDiff, ↓reduceIte]
  obtain rfl : i = B.length := by omega
  rw [List.take_of_length_le (by omega)]
  have e : (8 * B.length) = (bitsOf B).length := hbl.symm
  rw [e]
  exact endW [] hQ
theorem refGet_fn {L : List Bool} {p w : Nat} (hL : L.length ≤ 1099511627776) (hw : w ≤ 64) (hp : p + w ≤ L.length) : Fn1 Tryz.prog 68 [.row 1 (L.map be), .lit (.int .i64 (p : Int)), .lit (.int .i64 (w : Int))] []
  (.tup [.lit (.int .u64 (numOf ((L.drop p).take w) : Int)), .lit (.int .i64 ((p + w : Nat) : Int)), .lit (.int .i64 0)]) [] := by
 refine fn1N_of pl68 (by kernel_rfl) Tryz.call68 Tryz.func68 rfl (by kernel_rfl) rfl [.tmp 6, .tmp 7, .tmp 8] (by kernel_rfl) fun Q hQ => ?_
 simp (maxSteps := 1000000) (disch := (first | omega | (simp only [lnA, List.length_map, List.length_range, true_and, and_true]; (try omega); done) | fail)) only [go_sem, Int.reduceEq, Int.reduceToNat, Nat.reduceAdd, Nat.reduceMul, Nat.reduceEqDiff, ↓reduceIte]
 refine LoopV_of (X := Nat) (st := fun i => ([(0, .row 1 (L.map be)), (1, .lit (.int .i64 (p : Int))), (2, .lit (.int .i64 (w : Int))), (9, .lit (.int .u64 (numOf ((L.drop p).take i) : Int))), (10, .lit (.int .i64 (i : Int)))], []))
  (inv := fun i => i ≤ w) (m := fun i => w - i) 0 [] rfl (by simp (disch := (first | omega | (simp only [lnA, List.length_map, List.length_range, true_and, and_true]; (try omega); done) | fail)) only [go_sem, Int.reduceEq, Int.reduceToNat, Nat.reduceAdd, Nat.reduceMul, Nat.reduceEqDiff, ↓reduceIte, true_and, and_true, and_self, List.drop_zero, List.take_length, Nat.le_refl, V.lit.injEq, Value.int.injEq, Value.bool.injEq]; try (first | omega | (simp; done) | (simp; omega))) (by simp (maxSteps := 1000000) (disch := (first | omega | (simp only [lnA, List.length_map, List.length_range, true_and, and_true]; (try omega); done) | fail)) only [go_sem, Int.reduceEq, Int.reduceToNat, Nat.reduceAdd, Nat.reduceMul, Nat.reduceEqDiff, ↓reduceIte]; simp [numOf]) (Nat.zero_le _) ?_
 intro i hi
 by_cases hil : i < w
 ·
  have e1 : ((p : Int) + i).toNat = p + i := by omega
  have hlt := numOf_lt ((L.drop p).take i)
  have hlt2 : numOf ((L.drop p).take i) < 9223372036854775808 := Nat.lt_of_lt_of_le hlt (by
   have : ((L.drop p).take i).length ≤ 63 := by simp; omega
   exact Nat.pow_le_pow_right (n := 2) (by decide) this)
  have hts := take_snoc (l := L) (a := p) (w := i) (by omega)
  cases hb : L.getD (p + i) false with
  | true =>
   simp (maxSteps := 1000000) (disch := (first | omega | (simp only [lnA, List.length_map, List.length_range, true_and, and_true]; (try omega); done) | fail)) only [go_sem, e1, hb, Int.reduceEq, Int.reduceToNat, Nat.reduceAdd, Nat.reduceMul, Nat.reduceEqDiff, ↓reduceIte]
   refine NextV_of (i + 1) [] rfl (by simp (disch := (first | omega | (simp only [lnA, List.length_map, List.length_range, true_and, and_true]; (try omega); done) | fail)) only [go_sem, Int.reduceEq, Int.reduceToNat, Nat.reduceAdd, Nat.reduceMul, Nat.reduceEqDiff, ↓reduceIte, true_and, and_true, and_self, List.drop_zero, List.take_length, Nat.le_refl, V.lit.injEq, Value.int.injEq, Value.bool.injEq]; try (first | omega | (simp; done) | (simp; omega))) ?_ (by omega) (by omega)
   simp (maxSteps := 1000000) (disch := (first | omega | (simp only [lnA, List.length_map, List.length_range, true_and, and_true]; (try omega); done) | fail)) only [go_sem, Int.reduceEq, Int.reduceToNat, Nat.reduceAdd, Nat.reduceMul, Nat.reduceEqDiff, ↓reduceIte]
   rw [hts, numOf_snoc, hb]
   simp
  | false =>
   simp (maxSteps := 1000000) (disch := (first | omega | (simp only [lnA, List.length_map, List.length_range, true_and, and_true]; (try omega); done) | fail)) only [go_sem, e1, hb, Int.reduceEq, Int.reduceToNat, Nat.reduceAdd, Nat.reduceMul, Nat.reduceEqDiff, ↓reduceIte]
   refine NextV_of (i + 1) [] rfl (by simp (disch := (first | omega | (simp only [lnA, List.length_map, List.length_range, true_and, and_true]; (try omega); done) | fail)) only [go_sem, Int.reduceEq, Int.reduceToNat, Nat.reduceAdd, Nat.reduceMul, Nat.reduceEqDiff, ↓reduceIte, true_and, and_true, and_self, List.drop_zero, List.take_length, Nat.le_refl, V.lit.injEq, Value.int.injEq, Value.bool.injEq]; try (first | omega | (simp; done) | (simp; omega))) ?_ (by omega) (by omega)
   simp (maxSteps := 1000000) (disch := (first | omega | (simp only [lnA, List.length_map, List.length_range, true_and, and_true]; (try omega); done) | fail)) only [go_sem, Int.reduceEq, Int.reduceToNat, Nat.reduceAdd, Nat.reduceMul, Nat.reduceEqDiff, ↓reduceIte]
   rw [hts, numOf_snoc, hb]
   simp
 ·
  simp (maxSteps := 1000000) (disch := (first | omega | (simp only [lnA, List.length_map, List.length_range, true_and, and_true]; (try omega); done) | fail)) only [go_sem, Int.reduceEq, Int.reduceToNat, Nat.reduceAdd, Nat.reduceMul, Nat.reduceEqDiff, ↓reduceIte]
  obtain rfl : i = w := by omega
  exact endW [] hQ
theorem refSame_fn {A B : List Int} (hA : A.length ≤ 1099511627776) (hB : B.length ≤ 1099511627776) : Fn1 Tryz.prog 29 [.row 1 (A.map (ie .u8)), .row 1 (B.map (ie .u8))] [] (.lit (.bool (decide (A = B)))) [] := by
 refine fn1N_of pl29 (by kernel_rfl) Tryz.call29 Tryz.func29 rfl (by kernel_rfl) rfl [.tmp 4] (by kernel_rfl) fun Q hQ => ?_
 by_cases hl : A.length = B.length
 ·
  simp (maxSteps := 1000000) (disch := (first | omega | (simp only [lnA, List.length_map, List.length_range, true_and, and_true]; (try omega); done) | fail)) only [go_sem, Int.reduceEq, Int.reduceToNat, Nat.reduceAdd, Nat.reduceMul, Nat.reduceEqDiff, ↓reduceIte]
  refine loopW (X := Nat) (st := fun i => ([(0, .row 1 (A.map (ie .u8))), (1, .row 1 (B.map (ie .u8))), (5, .lit (.int .i64 (i : Int)))], []))
   (inv := fun i => i ≤ A.length ∧ A.take i = B.take i) (m := fun i => A.length - i) 0 [] ⟨Nat.zero_le _, by simp⟩ ?_
  rintro i ⟨hi, hs⟩
  by_cases hil : i < A.length
  ·
   by_cases hx : A.getD i 0 = B.getD i 0
   ·
    simp (maxSteps := 1000000) (disch := (first | omega | (simp only [lnA, List.length_map, List.length_range, true_and, and_true]; (try omega); done) | fail)) only [go_sem, hx, decide_true, Bool.not_true, Int.reduceEq, Int.reduceToNat, Nat.reduceAdd, Nat.reduceMul, Nat.reduceEqDiff, ↓reduceIte]
    refine nextW (i + 1) [] ⟨by omega, ?_⟩ (by omega)
    rw [take_succ_getD _ _ hil, take_succ_getD _ _ (by omega), hs]
    have : A.getD i default = B.getD i default := hx
    rw [this]
   ·
    simp (maxSteps := 1000000) (disch := (first | omega | (simp only [lnA, List.length_map, List.length_range, true_and, and_true]; (try omega); done) | fail)) only [go_sem, hx, decide_false, Bool.not_false, Int.reduceEq, Int.reduceToNat, Nat.reduceAdd, Nat.reduceMul, Nat.reduceEqDiff, ↓reduceIte]
    have : decide (A = B) = false := decide_eq_false fun e => hx (by rw [e])
    rw [this] at hQ
    exact endW [] hQ
  ·
   simp (maxSteps := 1000000) (disch := (first | omega | (simp only [lnA, List.length_map, List.length_range, true_and, and_true]; (try omega); done) | fail)) only [go_sem, Int.reduceEq, Int.reduceToNat, Nat.reduceAdd, Nat.reduceMul, Nat.reduceEqDiff, ↓reduceIte]
   obtain rfl : i = A.length := by omega
   rw [List.take_of_length_le (by omega), List.take_of_length_le (by omega)] at hs
   rw [decide_eq_true hs] at hQ
   exact endW [] hQ
 ·
  simp (maxSteps := 1000000) (disch := (first | omega | (simp only [lnA, List.length_map, List.length_range, true_and, and_true]; (try omega); done) | fail)) only [go_sem, Int.reduceEq, Int.reduceToNat, Nat.reduceAdd, Nat.reduceMul, Nat.reduceEqDiff, ↓reduceIte]
  have : decide (A = B) = false := decide_eq_false fun e => hl (by rw [e])
  rw [this] at hQ
  exact endW [] hQ
end Go.Proofs.YtpkfddfkacijoaaGreatDoor
