import Derived.Test.YteookgjmohokiaaGreatE6
import Derived.Test.YteookgjmohokiaaGreatE7
namespace Go.Proofs.YteookgjmohokiaaGreat
open Go.Eng Go.Vx
set_option linter.unusedSimpArgs false
set_option linter.unusedVariables false
set_option maxRecDepth 100000

theorem bgood_fn {n : Int} : Fn1 Tryz.prog 43 [.lit (.int .i64 n)] [] (.lit (.bool (decide (0 ≤ n ∧ n ≤ 64)))) [] := by
  refine fn1N_of pl43 (by kernel_rfl) Tryz.call43 Tryz.func43 rfl (by kernel_rfl) rfl [.tmp 2] (by kernel_rfl) fun Q hQ => ?_
  by_cases h : 0 ≤ n
  · simp (maxSteps := 1000000) (disch := (first | omega | (simp only [lnA, List.length_map, List.length_range, true_and, and_true]; (try omega); done) | fail)) only [go_sem, decide_true, Int.reduceEq, Int.reduceToNat, Nat.reduceAdd, Nat.reduceMul, Nat.reduceEqDiff, ↓reduceIte]
    simp only [h, true_and] at hQ
    exact endW [] hQ
  · simp (maxSteps := 1000000) (disch := (first | omega | (simp only [lnA, List.length_map, List.length_range, true_and, and_true]; (try omega); done) | fail)) only [go_sem, decide_false, Int.reduceEq, Int.reduceToNat, Nat.reduceAdd, Nat.reduceMul, Nat.reduceEqDiff, ↓reduceIte]
    simp only [h, false_and, decide_false] at hQ
    exact endW [] hQ

def wrC (o : Nat) (L : List Bool) : Ob := .cells [.sl o 1 0 (pk L).length, .lit (.int .i64 (L.length : Int))]
def wrR (L : List Bool) : Ob := .row 1 ((pk L).map (ie .u8))
attribute [go_sem] wrC wrR

theorem bit_fn {L : List Bool} {x : Bool} (hm : L.length < 1099511627776) : Fn1 Tryz.prog 45 [.ref 0 0 0 0, .lit (.bool x)] [some (wrC 1 L), some (wrR L)] (.tup []) [some (wrC 2 (L ++ [x])), none, some (wrR (L ++ [x]))] := by
  refine fn1N_of pl45 (by kernel_rfl) Tryz.call45 Tryz.func45 rfl (by kernel_rfl) rfl [] (by kernel_rfl) fun Q hQ => ?_
  have hpl := pk_len L
  have hsn := pk_snoc L x
  have hst := pkTo_set L x
  have hnx := pkTo_next L
  have hlx : (pk (L ++ [x])).length = L.length / 8 + 1 := by rw [hsn, pkTo_len]
  have hr8 : L.length % 8 < 8 := Nat.mod_lt _ (by omega)
  have hsb := byteV_snoc L true
  have hlt := byteV_lt (L ++ [true]) (L.length / 8)
  have hpw : (2 : Nat) ^ (7 - L.length % 8) < 256 := Nat.lt_of_le_of_lt (Nat.pow_le_pow_right (by omega) (show 7 - L.length % 8 ≤ 7 by omega)) (by decide)
  have horv : bitK .or .u8 ((byteV L (L.length / 8) : Nat) : Int) (IntKind.u8.wrap (1 * 2 ^ (7 - (L.length : Int) % 8).toNat)) = ((byteV L (L.length / 8) + 2 ^ (7 - L.length % 8) : Nat) : Int) := by
    have e1 : (1 * 2 ^ (7 - (L.length : Int) % 8).toNat : Int) = ((2 ^ (7 - L.length % 8) : Nat) : Int) := by
      rw [show (7 - (L.length : Int) % 8).toNat = 7 - L.length % 8 by omega, Int.one_mul]
      norm_cast
    rw [e1, wrap_u8 ⟨Int.natCast_nonneg _, by exact_mod_cast Nat.le_of_lt_succ hpw⟩, or_u8 (byteV_lt _ _) hpw, or_bit ⟨L.length % 8, hr8⟩ ⟨byteV L (L.length / 8), byteV_lt _ _⟩ hsb.2]
  have hdiv : ((L.length : Int) / 8).toNat = L.length / 8 := by omega
  have hgt := pkTo_get L (L.length / 8 + 1) (L.length / 8) (by omega)
  have hlen : ((L.length : Int) + 1) = (((L ++ [x]).length : Nat) : Int) := by simp
  by_cases h8 : L.length % 8 = 0
  · rw [if_pos h8] at hnx
    cases x with
    | true =>
      simp (maxSteps := 1000000) (disch := (first | omega | (simp only [lnA, List.length_map, List.length_range, true_and, and_true]; (try omega); done) | fail)) only [go_sem, Int.reduceEq, Int.reduceToNat, Nat.reduceAdd, Nat.reduceMul, Nat.reduceEqDiff, ↓reduceIte]

      refine EndV_of [some 0, some 1, some 3] _ _ rfl ?_ ?_ hQ
      · simp (maxSteps := 1000000) (disch := (first | omega | (simp only [lnA, List.length_map, List.length_range, true_and, and_true]; (try omega); done) | fail)) only [go_sem, true_and, and_true, Int.reduceEq, Int.reduceToNat, Nat.reduceAdd, Nat.reduceMul, Nat.reduceEqDiff, ↓reduceIte]
        rw [hdiv, ← hnx, hgt, horv, hsn, hst, hlen]
        refine ⟨⟨?_, by simp⟩, by simp⟩
        simp [pkTo_len]
        omega
      · simp (maxSteps := 1000000) (disch := (first | omega | (simp only [lnA, List.length_map, List.length_range, true_and, and_true]; (try omega); done) | fail)) only [go_sem, Int.reduceEq, Int.reduceToNat, Nat.reduceAdd, Nat.reduceMul, Nat.reduceEqDiff, ↓reduceIte]
    | false =>
      simp (maxSteps := 1000000) (disch := (first | omega | (simp only [lnA, List.length_map, List.length_range, true_and, and_true]; (try omega); done) | fail)) only [go_sem, Int.reduceEq, Int.reduceToNat, Nat.reduceAdd, Nat.reduceMul, Nat.reduceEqDiff, ↓reduceIte]
      refine EndV_of [some 0, some 1, some 3] _ _ rfl ?_ ?_ hQ
      · simp (maxSteps := 1000000) (disch := (first | omega | (simp only [lnA, List.length_map, List.length_range, true_and, and_true]; (try omega); done) | fail)) only [go_sem, true_and, and_true, Int.reduceEq, Int.reduceToNat, Nat.reduceAdd, Nat.reduceMul, Nat.reduceEqDiff, ↓reduceIte]
        rw [← hnx, hsn, pkTo_false, hlen, pkTo_len]
        refine ⟨⟨?_, by simp⟩, by simp⟩
        omega
      · simp (maxSteps := 1000000) (disch := (first | omega | (simp only [lnA, List.length_map, List.length_range, true_and, and_true]; (try omega); done) | fail)) only [go_sem, Int.reduceEq, Int.reduceToNat, Nat.reduceAdd, Nat.reduceMul, Nat.reduceEqDiff, ↓reduceIte]
  · rw [if_neg h8] at hnx
    cases x with
    | true =>
      simp (maxSteps := 1000000) (disch := (first | omega | (simp only [lnA, List.length_map, List.length_range, true_and, and_true]; (try omega); done) | fail)) only [go_sem, Int.reduceEq, Int.reduceToNat, Nat.reduceAdd, Nat.reduceMul, Nat.reduceEqDiff, ↓reduceIte]
      refine EndV_of [some 0, some 1, some 1] _ _ rfl ?_ ?_ hQ
      · simp (maxSteps := 1000000) (disch := (first | omega | (simp only [lnA, List.length_map, List.length_range, true_and, and_true]; (try omega); done) | fail)) only [go_sem, true_and, and_true, Int.reduceEq, Int.reduceToNat, Nat.reduceAdd, Nat.reduceMul, Nat.reduceEqDiff, ↓reduceIte]
        rw [hdiv, ← hnx, hgt, horv, hsn, hst, hlen]
        refine ⟨⟨?_, by simp⟩, by simp⟩
        simp
      · simp (maxSteps := 1000000) (disch := (first | omega | (simp only [lnA, List.length_map, List.length_range, true_and, and_true]; (try omega); done) | fail)) only [go_sem, Int.reduceEq, Int.reduceToNat, Nat.reduceAdd, Nat.reduceMul, Nat.reduceEqDiff, ↓reduceIte]
    | false =>
      simp (maxSteps := 1000000) (disch := (first | omega | (simp only [lnA, List.length_map, List.length_range, true_and, and_true]; (try omega); done) | fail)) only [go_sem, Int.reduceEq, Int.reduceToNat, Nat.reduceAdd, Nat.reduceMul, Nat.reduceEqDiff, ↓reduceIte]
      refine EndV_of [some 0, some 1, some 1] _ _ rfl ?_ ?_ hQ
      · simp (maxSteps := 1000000) (disch := (first | omega | (simp only [lnA, List.length_map, List.length_range, true_and, and_true]; (try omega); done) | fail)) only [go_sem, true_and, and_true, Int.reduceEq, Int.reduceToNat, Nat.reduceAdd, Nat.reduceMul, Nat.reduceEqDiff, ↓reduceIte]
        rw [← hnx, hsn, pkTo_false, hlen]
        refine ⟨⟨?_, by simp⟩, by simp⟩
        simp
      · simp (maxSteps := 1000000) (disch := (first | omega | (simp only [lnA, List.length_map, List.length_range, true_and, and_true]; (try omega); done) | fail)) only [go_sem, Int.reduceEq, Int.reduceToNat, Nat.reduceAdd, Nat.reduceMul, Nat.reduceEqDiff, ↓reduceIte]

theorem fits_fn {n : Nat} {m : Int} (hn : n < 18446744073709551616) (h0 : 0 ≤ m) (h6 : m ≤ 64) : Fn1 Tryz.prog 44 [.lit (.int .u64 n), .lit (.int .i64 m)] [] (.lit (.bool (decide (n < 2 ^ m.toNat)))) [] := by
  refine fn1N_of pl44 (by kernel_rfl) Tryz.call44 Tryz.func44 rfl (by kernel_rfl) rfl [.tmp 4] (by kernel_rfl) fun Q hQ => ?_
  by_cases h : m = 64
  · subst h
    simp (maxSteps := 1000000) (disch := (first | omega | (simp only [lnA, List.length_map, List.length_range, true_and, and_true]; (try omega); done) | fail)) only [go_sem, decide_true, Int.reduceEq, Int.reduceToNat, Nat.reduceAdd, Nat.reduceMul, Nat.reduceEqDiff, ↓reduceIte]
    rw [decide_eq_true (by rw [show Int.toNat 64 = 64 from rfl]; omega)] at hQ
    exact endW [] hQ
  · simp (maxSteps := 1000000) (disch := (first | omega | (simp only [lnA, List.length_map, List.length_range, true_and, and_true]; (try omega); done) | fail)) only [go_sem, decide_false, Int.reduceEq, Int.reduceToNat, Nat.reduceAdd, Nat.reduceMul, Nat.reduceEqDiff, ↓reduceIte]
    have e : decide ((n : Int) / 2 ^ m.toNat = 0) = decide (n < 2 ^ m.toNat) := by
      have hp : 0 < 2 ^ m.toNat := Nat.two_pow_pos _
      rw [decide_eq_decide]
      have : ((n : Int) / 2 ^ m.toNat) = ((n / 2 ^ m.toNat : Nat) : Int) := by simp
      rw [this]
      rw [show ((n / 2 ^ m.toNat : Nat) : Int) = 0 ↔ n / 2 ^ m.toNat = 0 by omega, Nat.div_eq_zero_iff]
      omega
    rw [e]
    exact endW [] hQ
theorem num_fn {L : List Bool} {n : Nat} {m : Int} (hn : n < 18446744073709551616) (hm : L.length < 1099511627000) (h0 : 0 ≤ m) (h6 : m ≤ 64) (hf : n < 2 ^ m.toNat) :
    Fn1 Tryz.prog 23 [.ref 0 0 0 0, .lit (.int .u64 n), .lit (.int .i64 m)] [some (wrC 1 L), some (wrR L)] (.lit (.int .i64 0)) [some (wrC 2 (L ++ numBits n m.toNat)), none, some (wrR (L ++ numBits n m.toNat))] := by
  refine fn1N_of pl23 (by kernel_rfl) Tryz.call23 Tryz.func23 rfl (by kernel_rfl) rfl [.tmp 6] (by kernel_rfl) fun Q hQ => ?_
  simp (maxSteps := 1000000) (disch := (first | omega | (simp only [lnA, List.length_map, List.length_range, true_and, and_true]; (try omega); done) | fail)) only [go_sem, Int.reduceEq, Int.reduceToNat, Nat.reduceAdd, Nat.reduceMul, Nat.reduceEqDiff, ↓reduceIte]
  refine callV0 (bgood_fn) rfl rfl ?_
  simp (maxSteps := 1000000) (disch := (first | omega | (simp only [lnA, List.length_map, List.length_range, true_and, and_true]; (try omega); done) | fail)) only [go_sem, h0, h6, decide_true, and_self, Bool.not_true, Int.reduceEq, Int.reduceToNat, Nat.reduceAdd, Nat.reduceMul, Nat.reduceEqDiff, ↓reduceIte]
  refine callV0 (fits_fn hn h0 h6) rfl rfl ?_
  simp (maxSteps := 1000000) (disch := (first | omega | (simp only [lnA, List.length_map, List.length_range, true_and, and_true]; (try omega); done) | fail)) only [go_sem, hf, decide_true, Bool.not_true, Int.reduceEq, Int.reduceToNat, Nat.reduceAdd, Nat.reduceMul, Nat.reduceEqDiff, ↓reduceIte]
  obtain ⟨M, rfl⟩ := Int.eq_ofNat_of_zero_le h0
  rw [Int.toNat_natCast] at *
  refine LoopV_of (X := Nat) (st := fun i => ([(0, .ref 0 0 0 0), (1, .lit (.int .u64 n)), (2, .lit (.int .i64 M)), (17, .lit (.int .i64 M)), (18, .lit (.int .i64 (i : Int)))], [some (wrC 2 (L ++ (numBits n M).take i)), none, some (wrR (L ++ (numBits n M).take i))]))
    (inv := fun i => i ≤ M) (m := fun i => M - i) 0 [some 0, some 1, some 1] rfl (by simp (maxSteps := 1000000) (disch := (first | omega | (simp only [lnA, List.length_map, List.length_range, true_and, and_true]; (try omega); done) | fail)) only [go_sem, Int.reduceEq, Int.reduceToNat, Nat.reduceAdd, Nat.reduceMul, Nat.reduceEqDiff, ↓reduceIte]; simp) (by simp (maxSteps := 1000000) (disch := (first | omega | (simp only [lnA, List.length_map, List.length_range, true_and, and_true]; (try omega); done) | fail)) only [go_sem, Int.reduceEq, Int.reduceToNat, Nat.reduceAdd, Nat.reduceMul, Nat.reduceEqDiff, ↓reduceIte]; simp) (Nat.zero_le _) ?_
  intro i hi
  have hnl := numBits_len n M
  by_cases hil : i < M
  · simp (maxSteps := 1000000) (disch := (first | omega | (simp only [lnA, List.length_map, List.length_range, true_and, and_true]; (try omega); done) | fail)) only [go_sem, Int.reduceEq, Int.reduceToNat, Nat.reduceAdd, Nat.reduceMul, Nat.reduceEqDiff, ↓reduceIte]
    have hx : decide ((n : Int) / 2 ^ ((M : Int) - 1 - i).toNat % 2 = 1) = (numBits n M)[i]'(by omega) := by
      rw [numBits_get n M i (by omega), decide_eq_decide, show ((M : Int) - 1 - i).toNat = M - 1 - i by omega]
      have : ((n : Int) / 2 ^ (M - 1 - i) % 2) = ((n / 2 ^ (M - 1 - i) % 2 : Nat) : Int) := by simp
      rw [this]
      omega
    rw [hx]
    have htk : (numBits n M).take (i + 1) = (numBits n M).take i ++ [(numBits n M)[i]'(by omega)] := List.take_succ_eq_append_getElem _
    refine callW [some 0, some 2] [] (bit_fn (L := L ++ (numBits n M).take i) (x := (numBits n M)[i]'(by omega)) (by simp; omega)) ?_
    simp (maxSteps := 1000000) (disch := (first | omega | (simp only [lnA, List.length_map, List.length_range, true_and, and_true]; (try omega); done) | fail)) only [go_sem, Int.reduceEq, Int.reduceToNat, Nat.reduceAdd, Nat.reduceMul, Nat.reduceEqDiff, ↓reduceIte]
    refine NextV_of (i + 1) [some 0, some 1, some 3] rfl ?_ ?_ (by omega) (by omega)
    · dsimp only
      rw [htk, ← List.append_assoc]
      simp (maxSteps := 1000000) (disch := (first | omega | (simp only [lnA, List.length_map, List.length_range, true_and, and_true]; (try omega); done) | fail)) only [go_sem, and_self, Int.reduceEq, Int.reduceToNat, Nat.reduceAdd, Nat.reduceMul, Nat.reduceEqDiff, ↓reduceIte]
    · dsimp only
      simp (maxSteps := 1000000) (disch := (first | omega | (simp only [lnA, List.length_map, List.length_range, true_and, and_true]; (try omega); done) | fail)) only [go_sem, and_self, Int.reduceEq, Int.reduceToNat, Nat.reduceAdd, Nat.reduceMul, Nat.reduceEqDiff, ↓reduceIte]
      simp
  · simp (maxSteps := 1000000) (disch := (first | omega | (simp only [lnA, List.length_map, List.length_range, true_and, and_true]; (try omega); done) | fail)) only [go_sem, Int.reduceEq, Int.reduceToNat, Nat.reduceAdd, Nat.reduceMul, Nat.reduceEqDiff, ↓reduceIte]
    obtain rfl : i = M := by omega
    rw [List.take_of_length_le (by omega)]
    exact endW [some 0, some 1, some 2] hQ
end Go.Proofs.YteookgjmohokiaaGreat
