import Derived.Test.YteookgjmohokiaaGreatHg
import Derived.Test.YteookgjmohokiaaGreatIk
namespace Go.Proofs.YteookgjmohokiaaGreat
open Go.Eng Go.Vx
set_option linter.unusedSimpArgs false
set_option linter.unusedVariables false
set_option maxRecDepth 100000
theorem writeP_fn {n w : Nat} {N : List Nat} {L : List Bool} (hn : n ≤ 256) (hw : 1 ≤ w ∧ w ≤ 32) (hN : N.length = n) (hl : ∀ x ∈ N, x < 2 ^ w) (hL : L.length < 1099511600000) :
    Fn1 Tryz.prog 27 [vecP n w (words (nwd n w) (packN w N)), .ref 0 0 0 0] [some (wrC 1 L), some (wrR L)] (.tup []) [some (wrC 2 (L ++ wbits w N)), none, some (wrR (L ++ wbits w N))] := by
  refine fn1N_of pl27 (by kernel_rfl) Tryz.call27 Tryz.func27 rfl (by kernel_rfl) rfl [] (by kernel_rfl) fun Q hQ => ?_
  have hnw : n * w ≤ 256 * 32 := Nat.mul_le_mul hn hw.2
  have hlw := words_len (nwd n w) (packN w N)
  refine runW ?_
  refine LoopV_of (X := Nat) (st := fun i => ([(0, vecP n w (words (nwd n w) (packN w N))), (1, .ref 0 0 0 0), (10, .lit (.int .i64 (n : Int))), (11, .lit (.int .i64 (i : Int)))], [some (wrC 2 (L ++ wbits w (N.take i))), none, some (wrR (L ++ wbits w (N.take i)))]))
    (inv := fun i => i ≤ n) (m := fun i => n - i) 0 [some 0, some 1, some 1] rfl (by simp only [List.take_zero, wbits, List.flatMap_nil, List.append_nil]; (simp (disch := (first | omega | (simp only [lnA, List.length_map, List.length_range, true_and, and_true]; (try omega); done) | fail)) only [go_sem, Int.reduceEq, Int.reduceToNat, Nat.reduceAdd, Nat.reduceMul, Nat.reduceEqDiff, ↓reduceIte, true_and, and_true, and_self, List.drop_zero, List.take_length, Nat.le_refl, V.lit.injEq, Value.int.injEq, Value.bool.injEq]; try (first | omega | (simp; done) | (simp; omega)))) (by simp (disch := (first | omega | (simp only [lnA, List.length_map, List.length_range, true_and, and_true]; (try omega); done) | fail)) only [go_sem, Int.reduceEq, Int.reduceToNat, Nat.reduceAdd, Nat.reduceMul, Nat.reduceEqDiff, ↓reduceIte, true_and, and_true, and_self, List.drop_zero, List.take_length, Nat.le_refl, V.lit.injEq, Value.int.injEq, Value.bool.injEq]; try (first | omega | (simp; done) | (simp; omega))) (by omega) ?_
  intro i hi
  by_cases h : i < n
  · have hx := getD_lt hl i
    have ht := wbits_take (w := w) (N := N) (i := i) (by omega)
    have hlen := wbits_len w (N.take i)
    have hlen2 : (N.take i).length * w ≤ 256 * 32 := Nat.mul_le_mul (by simp; omega) hw.2
    have hp := pow_w hw
    refine runW ?_
    refine callV0 (getN_fn (n := n) (w := w) (N := N) (i := i) hn hw h hl) rfl rfl ?_
    refine runW ?_
    refine callW [some 0, some 2] [] (num_fn (L := L ++ wbits w (N.take i)) (n := N.getD i 0) (m := (w : Int)) (by omega) (by rw [List.length_append]; omega) (by omega) (by omega) (by simpa using hx)) ?_
    rw [Int.toNat_natCast, List.append_assoc, ← ht]
    refine runW ?_
    refine nextW (i + 1) [some 0, some 1, some 3] (by omega) (by omega)
  · obtain rfl : i = n := by omega
    rw [List.take_of_length_le (show N.length ≤ i by omega)]
    refine runW ?_
    exact endW [some 0, some 1, some 2] hQ
set_option maxHeartbeats 4000000 in
theorem swriteP_fn {M D S : Nat} {st : SS} {L : List Bool} (hM : M ≤ 16) (hD : D ≤ 4) (hX : st.1.length ≤ 256) (hc : ∀ c ∈ st.1, c.1 < 2 ^ M ∧ c.2 < 2 ^ D) (hs : 1 ≤ st.2.1 ∧ st.2.1 ≤ 8) (hL : L.length < 1000000000) :
    Fn1 Tryz.prog 28 [saP M D S st, .ref 0 0 0 0] [some (wrC 1 L), some (wrR L)] (.tup []) [some (wrC 2 (L ++ sacB M D st)), none, some (wrR (L ++ sacB M D st))] := by
  obtain ⟨cs, s, f⟩ := st
  dsimp only at hX hc hs
  have n1 := num_fn (L := L) (n := s - 1) (m := 3) (by omega) (by omega) (by decide) (by decide) (by show s - 1 < 2 ^ 3; omega)
  have b1 := bit_fn (L := L ++ numBits (s - 1) 3) (x := f) (by rw [List.length_append, numBits_len]; omega)
  rw [show Int.toNat 3 = 3 from rfl] at n1
  have hs1 : (s : Int) - 1 = ((s - 1 : Nat) : Int) := by omega
  have e : L ++ sacB M D (cs, s, f) = L ++ numBits (s - 1) 3 ++ [f] ++ scB M D cs := by simp [sacB]
  have hl : (L ++ numBits (s - 1) 3 ++ [f]).length < 1000000010 := by rw [List.length_append, List.length_append, numBits_len, List.length_singleton]; omega
  have hpM : 2 ^ M ≤ 2 ^ 16 := Nat.pow_le_pow_right (by decide) hM
  have hpD : 2 ^ D ≤ 2 ^ 4 := Nat.pow_le_pow_right (by decide) hD
  rw [e]
  clear e
  refine fn1N_of pl28 (by kernel_rfl) Tryz.call28 Tryz.func28 rfl (by kernel_rfl) rfl [] (by kernel_rfl) fun Q hQ => ?_
  simp (maxSteps := 1000000) (disch := (first | omega | (simp only [lnA, List.length_map, List.length_range, true_and, and_true]; (try omega); done) | fail)) only [go_sem, hs1, Int.reduceEq, Int.reduceToNat, Nat.reduceAdd, Nat.reduceMul, Nat.reduceEqDiff, ↓reduceIte]
  refine callW [some 0, some 1] [] (n1) ?_
  refine runW ?_
  refine callW [some 0, some 2] [] (b1) ?_
  generalize L ++ numBits (s - 1) 3 ++ [f] = Q0 at *
  refine runW ?_
  refine LoopV_of (X := Nat) (st := fun i => ([(0, saP M D S (cs, s, f)), (1, .ref 0 0 0 0), (23, .row 2 (cs.map cV)), (24, .lit (.int .i64 (cs.length : Int))), (25, .lit (.int .i64 (i : Int)))], [some (wrC 2 (Q0 ++ scB M D (cs.take i))), none, some (wrR (Q0 ++ scB M D (cs.take i)))]))
    (inv := fun i => i ≤ cs.length) (m := fun i => cs.length - i) 0 [some 0, some 1, some 3] rfl (by simp only [List.take_zero, scB, List.flatMap_nil, List.append_nil]; (simp (disch := (first | omega | (simp only [lnA, List.length_map, List.length_range, true_and, and_true]; (try omega); done) | fail)) only [go_sem, Int.reduceEq, Int.reduceToNat, Nat.reduceAdd, Nat.reduceMul, Nat.reduceEqDiff, ↓reduceIte, true_and, and_true, and_self, List.drop_zero, List.take_length, Nat.le_refl, V.lit.injEq, Value.int.injEq, Value.bool.injEq]; try (first | omega | (simp; done) | (simp; omega)))) (by simp (disch := (first | omega | (simp only [lnA, List.length_map, List.length_range, true_and, and_true]; (try omega); done) | fail)) only [go_sem, Int.reduceEq, Int.reduceToNat, Nat.reduceAdd, Nat.reduceMul, Nat.reduceEqDiff, ↓reduceIte, true_and, and_true, and_self, List.drop_zero, List.take_length, Nat.le_refl, V.lit.injEq, Value.int.injEq, Value.bool.injEq]; try (first | omega | (simp; done) | (simp; omega))) (Nat.zero_le _) ?_
  intro i hi
  by_cases hil : i < cs.length
  · have hgi : cs[i]? = some cs[i] := List.getElem?_eq_getElem hil
    have hget : cs.getD i default = cs[i] := by rw [List.getD_eq_getElem?_getD, hgi]; rfl
    have htk := scB_take (M := M) (D := D) hgi
    have hcx := hc cs[i] (List.getElem_mem hil)
    have hsl := scB_len M D (cs.take i)
    have hsl2 : (cs.take i).length * (M + D) ≤ 256 * 20 := Nat.mul_le_mul (by rw [List.length_take]; omega) (by omega)
    have hml : (Q0 ++ scB M D (cs.take i)).length < 1000010010 := by rw [List.length_append]; omega
    have e2 : Q0 ++ scB M D (cs.take (i + 1)) = Q0 ++ scB M D (cs.take i) ++ numBits cs[i].1 M ++ numBits cs[i].2 D := by rw [htk]; simp
    clear htk hsl hsl2 hgi
    generalize cs[i] = x at *
    generalize Q0 ++ scB M D (cs.take i) = M1 at *
    have n2 := num_fn (L := M1) (n := x.1) (m := (M : Int)) (by omega) (by omega) (by omega) (by omega) (by rw [Int.toNat_natCast]; exact hcx.1)
    have n3 := num_fn (L := M1 ++ numBits x.1 M) (n := x.2) (m := (D : Int)) (by omega) (by rw [List.length_append, numBits_len]; omega) (by omega) (by omega) (by rw [Int.toNat_natCast]; exact hcx.2)
    rw [Int.toNat_natCast] at n2 n3
    simp (maxSteps := 1000000) (disch := (first | omega | (simp only [lnA, List.length_map, List.length_range, true_and, and_true]; (try omega); done) | fail)) only [go_sem, hget, Int.reduceEq, Int.reduceToNat, Nat.reduceAdd, Nat.reduceMul, Nat.reduceEqDiff, ↓reduceIte]
    refine callW [some 0, some 2] [] (n2) ?_
    refine runW ?_
    refine callW [some 0, some 4] [] (n3) ?_
    rw [← e2]
    refine runW ?_
    refine nextW (i + 1) [some 0, some 1, some 5] hil (by omega)
  · obtain rfl : i = cs.length := by omega
    rw [List.take_length]
    refine runW ?_
    exact endW [some 0, some 1, some 2] hQ
set_option maxHeartbeats 4000000 in
theorem awriteP_fn {K P C : Int} {X : List (Nat × Nat)} {N : Nat} {L : List Bool} (hX : X.length ≤ 1000) (hk : ∀ x ∈ X, x.1 < 2305843009213693951 ∧ x.2 ≤ 1048576) (h1 : N = 0 ∨ ∀ x ∈ X, 1 ≤ x.2) (hN : N ≤ 1048576) (hL : L.length < 1000000000) :
    Fn1 Tryz.prog 30 [amP K P C X N, .ref 0 0 0 0] [some (wrC 1 L), some (wrR L)] (.tup []) [some (wrC 2 (L ++ amsB X N)), none, some (wrR (L ++ amsB X N))] := by
  have hvl := varB_short hN
  refine fn1N_of pl30 (by kernel_rfl) Tryz.call30 Tryz.func30 rfl (by kernel_rfl) rfl [] (by kernel_rfl) fun Q hQ => ?_
  refine runW ?_
  refine callW [some 0, some 1] [] (putVar_fn (L := L) (n := N) (by omega) (by omega)) ?_
  by_cases h0 : N = 0
  · have e : amsB X N = varB N := by unfold amsB; rw [if_pos h0, List.append_nil]
    rw [e] at hQ
    refine runW ?_
    exact endW [some 0, some 1, some 2] hQ
  · have hr : ∀ x ∈ X, 1 ≤ x.2 := h1.elim (fun h1 => absurd h1 h0) id
    have e : L ++ amsB X N = L ++ varB N ++ smB X := by unfold amsB; rw [if_neg h0, List.append_assoc]
    rw [e] at hQ
    have hl : (L ++ varB N).length < 1000000030 := by rw [List.length_append]; omega
    generalize L ++ varB N = M at *
    clear e hvl
    refine runW ?_
    refine LoopV_of (X := Nat) (st := fun i => ([(1, .ref 0 0 0 0), (21, .row 2 (X.map sV)), (22, .lit (.int .i64 (X.length : Int))), (23, .lit (.int .i64 (i : Int)))], [some (wrC 2 (M ++ smB (X.take i))), none, some (wrR (M ++ smB (X.take i)))]))
      (inv := fun i => i ≤ X.length) (m := fun i => X.length - i) 0 [some 0, some 1, some 2] rfl (by simp only [List.take_zero, smB, List.flatMap_nil, List.append_nil]; (simp (disch := (first | omega | (simp only [lnA, List.length_map, List.length_range, true_and, and_true]; (try omega); done) | fail)) only [go_sem, Int.reduceEq, Int.reduceToNat, Nat.reduceAdd, Nat.reduceMul, Nat.reduceEqDiff, ↓reduceIte, true_and, and_true, and_self, List.drop_zero, List.take_length, Nat.le_refl, V.lit.injEq, Value.int.injEq, Value.bool.injEq]; try (first | omega | (simp; done) | (simp; omega)))) (by simp (disch := (first | omega | (simp only [lnA, List.length_map, List.length_range, true_and, and_true]; (try omega); done) | fail)) only [go_sem, Int.reduceEq, Int.reduceToNat, Nat.reduceAdd, Nat.reduceMul, Nat.reduceEqDiff, ↓reduceIte, true_and, and_true, and_self, List.drop_zero, List.take_length, Nat.le_refl, V.lit.injEq, Value.int.injEq, Value.bool.injEq]; try (first | omega | (simp; done) | (simp; omega))) (Nat.zero_le _) ?_
    intro i hi
    by_cases hil : i < X.length
    · have hgi : X[i]? = some X[i] := List.getElem?_eq_getElem hil
      have hget : X.getD i default = X[i] := by rw [List.getD_eq_getElem?_getD, hgi]; rfl
      have htk := smB_take hgi
      have hkx := hk X[i] (List.getElem_mem hil)
      have hrx := hr X[i] (List.getElem_mem hil)
      have hsl := smB_len (X := X.take i) fun y hy => ⟨hr y (List.mem_of_mem_take hy), (hk y (List.mem_of_mem_take hy)).2⟩
      have hsl2 : (X.take i).length ≤ 1000 := by rw [List.length_take]; omega
      have hml : (M ++ smB (X.take i)).length < 1000200030 := by rw [List.length_append]; omega
      have e2 : M ++ smB (X.take (i + 1)) = M ++ smB (X.take i) ++ numBits X[i].1 61 ++ gammaB X[i].2 := by rw [htk]; simp
      clear htk hsl hsl2 hgi
      generalize X[i] = x at *
      generalize M ++ smB (X.take i) = M1 at *
      have n1 := num_fn (L := M1) (n := x.1) (m := 61) (by omega) (by omega) (by decide) (by decide) (by show x.1 < 2 ^ 61; omega)
      rw [show Int.toNat 61 = 61 from rfl] at n1
      have p1 := putGamma_fn (L := M1 ++ numBits x.1 61) (n := x.2) (by omega) (by omega) (by rw [List.length_append, numBits_len]; omega)
      simp (maxSteps := 1000000) (disch := (first | omega | (simp only [lnA, List.length_map, List.length_range, true_and, and_true]; (try omega); done) | fail)) only [go_sem, hget, Int.reduceEq, Int.reduceToNat, Nat.reduceAdd, Nat.reduceMul, Nat.reduceEqDiff, ↓reduceIte]
      refine callW [some 0, some 2] [] (n1) ?_
      refine runW ?_
      refine callW [some 0, some 4] [] (p1) ?_
      rw [← e2]
      refine runW ?_
      refine nextW (i + 1) [some 0, some 1, some 5] hil (by omega)
    · obtain rfl : i = X.length := by omega
      rw [List.take_length]
      refine runW ?_
      exact endW [some 0, some 1, some 2] hQ
theorem sealO_fn {l : List Nat} (hl : ∀ x ∈ l, x < 256) (hm : l.length < 1000000) : Fn1 Tryz.prog 31 [.row 1 ((nl l).map (ie .u8))] [] (.sl 0 1 0 (l.length + 4)) [some (.row 1 ((nl (sealN l)).map (ie .u8)))] := by
  refine fn1N_of pl31 (by kernel_rfl) Tryz.call31 Tryz.func31 rfl (by kernel_rfl) rfl [.tmp 2] (by kernel_rfl) fun Q hQ => ?_
  have hnl := nl_len l
  refine runW ?_
  refine callW [] [] (cloneO_fn (B := nl l) (by omega)) ?_
  refine runW ?_
  refine callV0 (sum_fn hl (by omega)) rfl rfl ?_
  refine runW ?_
  have hs := sumN_lt l
  refine LoopV_of (X := Nat) (st := fun j => ([(3, .sl 0 1 0 (l.length + j)), (4, .lit (.int .i64 (3 - (j : Int)))), (5, .lit (.int .u32 ((crcS l : Nat) : Int)))], [some (.row 1 ((nl (l ++ (be4N (crcS l)).take j)).map (ie .u8)))]))
    (inv := fun j => j ≤ 4) (m := fun j => 4 - j) 0 [some 0] rfl (by rw [List.take_zero, List.append_nil]; (simp (disch := (first | omega | (simp only [lnA, List.length_map, List.length_range, true_and, and_true]; (try omega); done) | fail)) only [go_sem, Int.reduceEq, Int.reduceToNat, Nat.reduceAdd, Nat.reduceMul, Nat.reduceEqDiff, ↓reduceIte, true_and, and_true, and_self, List.drop_zero, List.take_length, Nat.le_refl, V.lit.injEq, Value.int.injEq, Value.bool.injEq]; try (first | omega | (simp; done) | (simp; omega)))) (by simp (disch := (first | omega | (simp only [lnA, List.length_map, List.length_range, true_and, and_true]; (try omega); done) | fail)) only [go_sem, Int.reduceEq, Int.reduceToNat, Nat.reduceAdd, Nat.reduceMul, Nat.reduceEqDiff, ↓reduceIte, true_and, and_true, and_self, List.drop_zero, List.take_length, Nat.le_refl, V.lit.injEq, Value.int.injEq, Value.bool.injEq]; try (first | omega | (simp; done) | (simp; omega))) (by omega) ?_
  intro j hj
  have hll : (nl (l ++ (be4N (crcS l)).take j)).length = l.length + j := by rw [nl_len]; simp [be4N]; omega
  by_cases h : j < 4
  · have ht : nl (l ++ (be4N (crcS l)).take (j + 1)) = nl (l ++ (be4N (crcS l)).take j) ++ [((crcS l / 2 ^ (8 * (3 - j)) % 256 : Nat) : Int)] := by
      rw [take_succ_N (by simp [be4N]; omega), be4N_at _ _ h]; simp [nl]
    have h83 : ((8 : Int) * (3 - (j : Int))).toNat = 8 * (3 - j) := by omega
    have hdv := div_nat (crcS l) (8 * (3 - j))
    generalize crcS l / 2 ^ (8 * (3 - j)) = q at *
    simp (maxSteps := 1000000) (disch := (first | omega | (simp only [lnA, List.length_map, List.length_range, true_and, and_true]; (try omega); done) | fail)) only [go_sem, h83, hdv, wrap8_nat, Int.reduceEq, Int.reduceToNat, Nat.reduceAdd, Nat.reduceMul, Nat.reduceEqDiff, ↓reduceIte]
    refine NextV_of (j + 1) [some 2] rfl (by dsimp only; rw [ht]; (simp (disch := (first | omega | (simp only [lnA, List.length_map, List.length_range, true_and, and_true]; (try omega); done) | fail)) only [go_sem, Int.reduceEq, Int.reduceToNat, Nat.reduceAdd, Nat.reduceMul, Nat.reduceEqDiff, ↓reduceIte, true_and, and_true, and_self, List.drop_zero, List.take_length, Nat.le_refl, V.lit.injEq, Value.int.injEq, Value.bool.injEq]; try (first | omega | (simp; done) | (simp; omega)))) (by simp (disch := (first | omega | (simp only [lnA, List.length_map, List.length_range, true_and, and_true]; (try omega); done) | fail)) only [go_sem, Int.reduceEq, Int.reduceToNat, Nat.reduceAdd, Nat.reduceMul, Nat.reduceEqDiff, ↓reduceIte, true_and, and_true, and_self, List.drop_zero, List.take_length, Nat.le_refl, V.lit.injEq, Value.int.injEq, Value.bool.injEq]; try (first | omega | (simp; done) | (simp; omega))) (by omega) (by omega)
  · obtain rfl : j = 4 := by omega
    have e : l ++ (be4N (crcS l)).take 4 = sealN l := rfl
    rw [e] at *
    have hsl := sealN_len l
    have hns := nl_len (sealN l)
    refine runW ?_
    exact endW [some 0] hQ
end Go.Proofs.YteookgjmohokiaaGreat
