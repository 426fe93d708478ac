import Derived.Test.YteookgjmohokiaaGreatWs
namespace Go.Proofs.YteookgjmohokiaaGreat
open Go.Eng Go.Vx
set_option linter.unusedSimpArgs false
set_option linter.unusedVariables false
set_option maxRecDepth 100000
def bstep (c bit : Nat) : Nat := if c % 2 = bit then c / 2 else (c / 2) ^^^ 3988292384
theorem bstep_eq {y v : Nat} : bstep (y ^^^ v) (v % 2) = tstep y ^^^ (v / 2) := by
  unfold bstep tstep
  rw [xor_mod_two, Nat.xor_div_two]
  by_cases h : y % 2 = 1
  · rw [if_pos h, if_neg (by omega), Nat.xor_assoc, Nat.xor_assoc, Nat.xor_comm (v / 2)]
  · rw [if_neg h, if_pos (by omega)]
def bst (x b k : Nat) : Nat := tsteps x k ^^^ (b / 2 ^ k)
theorem bst_succ {x b k : Nat} : bstep (bst x b k) (b / 2 ^ k % 2) = bst x b (k + 1) := by
  unfold bst
  rw [bstep_eq, Nat.pow_succ, ← Nat.div_div_eq_div_mul]
  rfl
theorem bst_zero {c b : Nat} : bst (c ^^^ b) b 0 = c := by
  unfold bst
  rw [Nat.pow_zero, Nat.div_one]
  show (c ^^^ b) ^^^ b = c
  rw [Nat.xor_assoc, Nat.xor_self, Nat.xor_zero]
theorem bst_eight {c b : Nat} (hb : b < 256) : bst (c ^^^ b) b 8 = ms c b := by
  unfold bst
  rw [Nat.div_eq_of_lt (show b < 2 ^ 8 from hb), Nat.xor_zero, ms_eq]
theorem bst_lt {x b k : Nat} (hx : x < 4294967296) (hb : b < 256) : bst x b k < 4294967296 :=
  Nat.xor_lt_two_pow (n := 32) (tsteps_lt hx k) (Nat.lt_of_le_of_lt (Nat.div_le_self _ _) (by omega))
theorem shrN {b k : Nat} : ((b : Nat) : Int) / 2 ^ k = ((b / 2 ^ k : Nat) : Int) := by simp
set_option maxHeartbeats 1000000 in
theorem refSum_fn {l : List Nat} (hl : ∀ x ∈ l, x < 256) (hm : l.length < 4294967296) : Fn1 Tryz.prog 21 [.row 1 ((nl l).map (ie .u8))] [] (.lit (.int .u32 ((crcS l : Nat) : Int))) [] := by
  have hnl := nl_len l
  refine fn1N_of pl21 (by kernel_rfl) Tryz.call21 Tryz.func21 rfl (by kernel_rfl) rfl [.tmp 2] (by kernel_rfl) fun Q hQ => ?_
  simp (maxSteps := 1000000) (disch := (first | omega | (simp only [lnA, List.length_map, List.length_range, true_and, and_true]; (try omega); done) | fail)) only [go_sem, Int.reduceEq, Int.reduceToNat, Nat.reduceAdd, Nat.reduceMul, Nat.reduceEqDiff, ↓reduceIte]
  refine loopW (X := Nat × Nat) (st := fun y => ([(0, .row 1 ((nl l).map (ie .u8))), (3, .lit (.int .u32 (y.2 : Int))), (4, .lit (.int .i64 (y.1 : Int)))], []))
    (inv := fun y => y.1 ≤ l.length ∧ y.2 = crcN 4294967295 (l.take y.1)) (m := fun y => l.length - y.1) (0, 4294967295) [] ⟨Nat.zero_le _, rfl⟩ ?_
  rintro ⟨i, c⟩ ⟨hi, hc⟩
  dsimp only at hi hc ⊢
  have hlt := crcN_lt (l := l.take i) (c := 4294967295) (fun x hx => hl x (List.mem_of_mem_take hx)) (by decide)
  rw [← hc] at hlt
  by_cases hil : i < l.length
  · have hg := nl_get l i
    have hb := getD_lt256 hl i
    have hn : crcN 4294967295 (l.take (i + 1)) = ms c (l.getD i 0) := by rw [take_succ_N hil, crcN_app, ← hc]; rfl
    generalize l.getD i 0 = b at *
    have hx : c ^^^ b < 4294967296 := Nat.xor_lt_two_pow (n := 32) hlt (by omega)
    have h0 := bst_zero (c := c) (b := b)
    have h8 := bst_eight (c := c) hb
    simp (maxSteps := 1000000) (disch := (first | omega | (simp only [lnA, List.length_map, List.length_range, true_and, and_true]; (try omega); done) | fail)) only [go_sem, Int.reduceEq, Int.reduceToNat, Nat.reduceAdd, Nat.reduceMul, Nat.reduceEqDiff, ↓reduceIte]
    refine loopW (X := Nat × Nat) (st := fun y => ([(0, .row 1 ((nl l).map (ie .u8))), (3, .lit (.int .u32 (y.2 : Int))), (4, .lit (.int .i64 (i : Int))), (5, .lit (.int .i64 (y.1 : Int)))], []))
      (inv := fun y => y.1 ≤ 8 ∧ y.2 = bst (c ^^^ b) b y.1) (m := fun y => 8 - y.1) (0, c) [] ⟨Nat.zero_le _, h0.symm⟩ ?_
    rintro ⟨k, d⟩ ⟨hk, hd⟩
    dsimp only at hk hd ⊢
    have hdl := bst_lt (k := k) hx hb
    have hs := bst_succ (x := c ^^^ b) (b := b) (k := k)
    have hsh := shrN (b := b) (k := k)
    rw [← hd] at hdl hs
    by_cases hk8 : k < 8
    · have hv : b / 2 ^ k ≤ b := Nat.div_le_self _ _
      generalize b / 2 ^ k = v at *
      unfold bstep at hs
      by_cases hbit : d % 2 = v % 2
      · rw [if_pos hbit] at hs
        have hd1 : decide (((d : Nat) : Int) % 2 = (v : Int) % 2) = true := decide_eq_true (by omega)
        simp (maxSteps := 1000000) (disch := (first | omega | (simp only [lnA, List.length_map, List.length_range, true_and, and_true]; (try omega); done) | fail)) only [go_sem, hg, hsh, Int.toNat_natCast, Int.reduceEq, Int.reduceToNat, Nat.reduceAdd, Nat.reduceMul, Nat.reduceEqDiff, ↓reduceIte]
        refine nextW (k + 1, d / 2) [] ⟨hk8, hs⟩ (by dsimp only; omega)
      · rw [if_neg hbit] at hs
        have hxr := xor_u32 (x := d / 2) (y := 3988292384) (by omega) (by decide)
        rw [show ((d / 2 : Nat) : Int) = (d : Int) / 2 from rfl, show ((3988292384 : Nat) : Int) = 3988292384 from rfl] at hxr
        simp (maxSteps := 1000000) (disch := (first | omega | (simp only [lnA, List.length_map, List.length_range, true_and, and_true]; (try omega); done) | fail)) only [go_sem, hg, hsh, Int.toNat_natCast, hxr, Int.reduceEq, Int.reduceToNat, Nat.reduceAdd, Nat.reduceMul, Nat.reduceEqDiff, ↓reduceIte]
        refine nextW (k + 1, d / 2 ^^^ 3988292384) [] ⟨hk8, hs⟩ (by dsimp only; omega)
    · obtain rfl : k = 8 := by omega
      rw [h8, ← hn] at hd
      simp (maxSteps := 1000000) (disch := (first | omega | (simp only [lnA, List.length_map, List.length_range, true_and, and_true]; (try omega); done) | fail)) only [go_sem, Int.reduceEq, Int.reduceToNat, Nat.reduceAdd, Nat.reduceMul, Nat.reduceEqDiff, ↓reduceIte]
      refine nextW (i + 1, d) [] ⟨hil, hd⟩ (by dsimp only; omega)
  · obtain rfl : i = l.length := by omega
    rw [List.take_length] at hc
    have e : (4294967295 : Int) - (c : Int) = ((crcS l : Nat) : Int) := by unfold crcS; rw [← hc]; omega
    simp (maxSteps := 1000000) (disch := (first | omega | (simp only [lnA, List.length_map, List.length_range, true_and, and_true]; (try omega); done) | fail)) only [go_sem, e, Int.reduceEq, Int.reduceToNat, Nat.reduceAdd, Nat.reduceMul, Nat.reduceEqDiff, ↓reduceIte]
    exact endW [] hQ
theorem refSeal_fn {l : List Nat} (hl : ∀ x ∈ l, x < 256) (hm : l.length < 1000000) : Fn1 Tryz.prog 9 [.row 1 ((nl l).map (ie .u8))] [] (.row 1 ((nl (sealN l)).map (ie .u8))) [] := by
  have hnl := nl_len l
  have sm := refSum_fn hl (by omega)
  have hs := sumN_lt l
  have e : nl (sealN l) = nl l ++ [((crcS l / 16777216 : Nat) : Int), ((crcS l / 65536 % 256 : Nat) : Int), ((crcS l / 256 % 256 : Nat) : Int), ((crcS l % 256 : Nat) : Int)] := by
    unfold sealN be4N nl
    rw [List.map_append, Nat.mod_eq_of_lt (show crcS l / 16777216 < 256 by omega)]
    rfl
  rw [e]
  generalize crcS l = s at *
  refine fn1N_of pl9 (by kernel_rfl) Tryz.call9 Tryz.func9 rfl (by kernel_rfl) rfl [.tmp 2] (by kernel_rfl) fun Q hQ => ?_
  simp (maxSteps := 1000000) (disch := (first | omega | (simp only [lnA, List.length_map, List.length_range, true_and, and_true]; (try omega); done) | fail)) only [go_sem, Int.reduceEq, Int.reduceToNat, Nat.reduceAdd, Nat.reduceMul, Nat.reduceEqDiff, ↓reduceIte]
  refine callV0 (sm) rfl rfl ?_
  have w1 : IntKind.u8.wrap ((s : Int) / 16777216) = ((s / 16777216 % 256 : Nat) : Int) := wrap8_nat (s / 16777216)
  have w2 : IntKind.u8.wrap ((s : Int) / 65536) = ((s / 65536 % 256 : Nat) : Int) := wrap8_nat (s / 65536)
  have w3 : IntKind.u8.wrap ((s : Int) / 256) = ((s / 256 % 256 : Nat) : Int) := wrap8_nat (s / 256)
  have w4 : IntKind.u8.wrap (s : Int) = ((s % 256 : Nat) : Int) := wrap8_nat s
  simp (maxSteps := 1000000) (disch := (first | omega | (simp only [lnA, List.length_map, List.length_range, true_and, and_true]; (try omega); done) | fail)) only [go_sem, w1, w2, w3, w4, Int.reduceEq, Int.reduceToNat, Nat.reduceAdd, Nat.reduceMul, Nat.reduceEqDiff, ↓reduceIte]
  simp only [List.map_append, List.map_cons, List.map_nil, ie] at hQ
  refine EndV_of [] _ _ rfl (by simp (disch := (first | omega | (simp only [lnA, List.length_map, List.length_range, true_and, and_true]; (try omega); done) | fail)) only [go_sem, Int.reduceEq, Int.reduceToNat, Nat.reduceAdd, Nat.reduceMul, Nat.reduceEqDiff, ↓reduceIte, true_and, and_true, and_self, List.drop_zero, List.take_length, Nat.le_refl, V.lit.injEq, Value.int.injEq, Value.bool.injEq]; try (first | omega | (simp; done) | (simp; omega))) ?_ hQ
  simp (maxSteps := 1000000) (disch := (first | omega | (simp only [lnA, List.length_map, List.length_range, true_and, and_true]; (try omega); done) | fail)) only [go_sem, Int.reduceEq, Int.reduceToNat, Nat.reduceAdd, Nat.reduceMul, Nat.reduceEqDiff, ↓reduceIte]
  rw [List.take_of_length_le (by simp [hnl])]
  simp [hnl]
end Go.Proofs.YteookgjmohokiaaGreat
