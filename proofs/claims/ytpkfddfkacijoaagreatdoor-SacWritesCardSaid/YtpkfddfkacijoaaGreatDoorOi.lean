import Derived.Test.YtpkfddfkacijoaaGreatDoorOh
import Derived.Test.YtpkfddfkacijoaaGreatDoorWh
import Derived.Test.YtpkfddfkacijoaaGreatDoorSw
namespace Go.Proofs.YtpkfddfkacijoaaGreatDoor
open Go.Eng Go.Vx
set_option linter.unusedSimpArgs false
set_option linter.unusedVariables false
set_option maxRecDepth 100000
instance goodS_dec {M D S : Int} : Decidable (goodS M D S) := by unfold goodS; exact inferInstance
theorem rgood_fn {M D S : Int} : Fn1 Tryz.prog 36 [.agg [.lit (.int .i64 M), .lit (.int .i64 D), .lit (.int .i64 S)]] [] (.lit (.bool (decide (goodS M D S)))) [] := by
 refine fn1N_of pl36 (by kernel_rfl) Tryz.call36 Tryz.func36 rfl (by kernel_rfl) rfl [.tmp 2] (by kernel_rfl) fun Q hQ => ?_
 by_cases h1 : 1 ≤ M
 ·
  by_cases h2 : M ≤ 16
  ·
   by_cases h3 : 1 ≤ D
   ·
    by_cases h4 : D ≤ 4
    ·
     by_cases h5 : 1 ≤ S
     ·
      by_cases h6 : S ≤ 8
      ·
       rw [decide_eq_true (show goodS M D S from ⟨⟨h1, h2⟩, ⟨h3, h4⟩, h5, h6⟩)] at hQ
       simp (maxSteps := 1000000) (disch := (first | omega | (simp only [lnA, List.length_map, List.length_range, true_and, and_true]; (try omega); done) | fail)) only [go_sem, Int.reduceEq, Int.reduceToNat, Nat.reduceAdd, Nat.reduceMul, Nat.reduceEqDiff, ↓reduceIte]
       exact endW [] hQ
      ·
       rw [decide_eq_false (show ¬ goodS M D S from fun h => h6 h.2.2.2)] at hQ
       simp (maxSteps := 1000000) (disch := (first | omega | (simp only [lnA, List.length_map, List.length_range, true_and, and_true]; (try omega); done) | fail)) only [go_sem, Int.reduceEq, Int.reduceToNat, Nat.reduceAdd, Nat.reduceMul, Nat.reduceEqDiff, ↓reduceIte]
       exact endW [] hQ
     ·
      rw [decide_eq_false (show ¬ goodS M D S from fun h => h5 h.2.2.1)] at hQ
      simp (maxSteps := 1000000) (disch := (first | omega | (simp only [lnA, List.length_map, List.length_range, true_and, and_true]; (try omega); done) | fail)) only [go_sem, Int.reduceEq, Int.reduceToNat, Nat.reduceAdd, Nat.reduceMul, Nat.reduceEqDiff, ↓reduceIte]
      exact endW [] hQ
    ·
     rw [decide_eq_false (show ¬ goodS M D S from fun h => h4 h.2.1.2)] at hQ
     simp (maxSteps := 1000000) (disch := (first | omega | (simp only [lnA, List.length_map, List.length_range, true_and, and_true]; (try omega); done) | fail)) only [go_sem, Int.reduceEq, Int.reduceToNat, Nat.reduceAdd, Nat.reduceMul, Nat.reduceEqDiff, ↓reduceIte]
     exact endW [] hQ
   ·
    rw [decide_eq_false (show ¬ goodS M D S from fun h => h3 h.2.1.1)] at hQ
    simp (maxSteps := 1000000) (disch := (first | omega | (simp only [lnA, List.length_map, List.length_range, true_and, and_true]; (try omega); done) | fail)) only [go_sem, Int.reduceEq, Int.reduceToNat, Nat.reduceAdd, Nat.reduceMul, Nat.reduceEqDiff, ↓reduceIte]
    exact endW [] hQ
  ·
   rw [decide_eq_false (show ¬ goodS M D S from fun h => h2 h.1.2)] at hQ
   simp (maxSteps := 1000000) (disch := (first | omega | (simp only [lnA, List.length_map, List.length_range, true_and, and_true]; (try omega); done) | fail)) only [go_sem, Int.reduceEq, Int.reduceToNat, Nat.reduceAdd, Nat.reduceMul, Nat.reduceEqDiff, ↓reduceIte]
   exact endW [] hQ
 ·
  rw [decide_eq_false (show ¬ goodS M D S from fun h => h1 h.1.1)] at hQ
  simp (maxSteps := 1000000) (disch := (first | omega | (simp only [lnA, List.length_map, List.length_range, true_and, and_true]; (try omega); done) | fail)) only [go_sem, Int.reduceEq, Int.reduceToNat, Nat.reduceAdd, Nat.reduceMul, Nat.reduceEqDiff, ↓reduceIte]
  exact endW [] hQ
theorem refPutO_fn {L : List Bool} {n m : Nat} (hL : L.length ≤ 1099511627776) (hn : n < 18446744073709551616) (hm : m ≤ 64) (hf : n < 2 ^ m) (hm1 : 1 ≤ m) : Fn1 Tryz.prog 66 [.row 1 (L.map be), .lit (.int .u64 n), .lit (.int .i64 m)] []
  (.tup [.sl 0 1 0 (L.length + m), .lit (.int .i64 0)]) [some (.row 1 ((L ++ numBits n m).map be))] := by
 refine fn1N_of pl66 (by kernel_rfl) Tryz.call66 Tryz.func66 rfl (by kernel_rfl) rfl [.tmp 6, .tmp 7] (by kernel_rfl) fun Q hQ => ?_
 simp (maxSteps := 1000000) (disch := (first | omega | (simp only [lnA, List.length_map, List.length_range, true_and, and_true]; (try omega); done) | fail)) only [go_sem, Int.reduceEq, Int.reduceToNat, Nat.reduceAdd, Nat.reduceMul, Nat.reduceEqDiff, ↓reduceIte]
 refine LoopV_of (X := Nat) (st := fun i => ([(0, .row 1 (L.map be)), (1, .lit (.int .u64 ((n / 2 ^ i : Nat) : Int))), (2, .lit (.int .i64 m)), (8, .sl 0 1 0 i), (9, .lit (.int .i64 (i : Int)))], [some (.row 1 ((numBits n i).map be))]))
  (inv := fun i => i ≤ m) (m := fun i => m - i) 0 [none] rfl (by simp (maxSteps := 1000000) (disch := (first | omega | (simp only [lnA, List.length_map, List.length_range, true_and, and_true]; (try omega); done) | fail)) only [go_sem, Int.reduceEq, Int.reduceToNat, Nat.reduceAdd, Nat.reduceMul, Nat.reduceEqDiff, ↓reduceIte]; simp [numBits]) (by simp (maxSteps := 1000000) (disch := (first | omega | (simp only [lnA, List.length_map, List.length_range, true_and, and_true]; (try omega); done) | fail)) only [go_sem, Int.reduceEq, Int.reduceToNat, Nat.reduceAdd, Nat.reduceMul, Nat.reduceEqDiff, ↓reduceIte]; simp) (Nat.zero_le _) ?_
 intro i hi
 have hnl := numBits_len n i
 have htk : List.take i (numBits n i) = numBits n i := List.take_of_length_le (Nat.le_of_eq hnl)
 by_cases him : i < m
 ·
  have hle : n / 2 ^ i ≤ n := Nat.div_le_self _ _
  have e1 := numBits_succ n i
  have e2 : n / 2 ^ (i + 1) = n / 2 ^ i / 2 := by rw [Nat.pow_succ, ← Nat.div_div_eq_div_mul]
  generalize hx : n / 2 ^ i = x at *
  simp (maxSteps := 1000000) (disch := (first | omega | (simp only [lnA, List.length_map, List.length_range, true_and, and_true]; (try omega); done) | fail)) only [go_sem, htk, Int.reduceEq, Int.reduceToNat, Nat.reduceAdd, Nat.reduceMul, Nat.reduceEqDiff, ↓reduceIte]
  refine NextV_of (i + 1) [some 2] rfl ?_ ?_ (by omega) (by omega)
  ·
   dsimp only
   rw [e1, show decide (x % 2 = 1) = decide ((x : Int) % 2 = 1) by rw [decide_eq_decide]; omega]
   (simp (disch := (first | omega | (simp only [lnA, List.length_map, List.length_range, true_and, and_true]; (try omega); done) | fail)) only [go_sem, Int.reduceEq, Int.reduceToNat, Nat.reduceAdd, Nat.reduceMul, Nat.reduceEqDiff, ↓reduceIte, true_and, and_true, and_self, List.drop_zero, List.take_length, Nat.le_refl, V.lit.injEq, Value.int.injEq, Value.bool.injEq]; try (first | omega | (simp; done) | (simp; omega)))
  ·
   dsimp only
   rw [e2]
   (simp (disch := (first | omega | (simp only [lnA, List.length_map, List.length_range, true_and, and_true]; (try omega); done) | fail)) only [go_sem, Int.reduceEq, Int.reduceToNat, Nat.reduceAdd, Nat.reduceMul, Nat.reduceEqDiff, ↓reduceIte, true_and, and_true, and_self, List.drop_zero, List.take_length, Nat.le_refl, V.lit.injEq, Value.int.injEq, Value.bool.injEq]; try (first | omega | (simp; done) | (simp; omega)))
 ·
  obtain rfl : i = m := by omega
  rw [Nat.div_eq_of_lt hf]
  simp (maxSteps := 1000000) (disch := (first | omega | (simp only [lnA, List.length_map, List.length_range, true_and, and_true]; (try omega); done) | fail)) only [go_sem, htk, Int.reduceEq, Int.reduceToNat, Nat.reduceAdd, Nat.reduceMul, Nat.reduceEqDiff, ↓reduceIte]
  rw [hnl]
  exact endW [some 3] hQ
set_option maxHeartbeats 4000000 in
theorem rswrite_fn {M D S : Nat} {st : SS} {L : List Bool} {p : Nat} {e : Int} (hM : M ≤ 16) (hD : D ≤ 4) (hX : st.1.length ≤ 256) (hc : ∀ c ∈ st.1, c.1 < 2 ^ M ∧ c.2 < 2 ^ D) (hs : 1 ≤ st.2.1 ∧ st.2.1 ≤ 8) :
  Fn1 Tryz.prog 25 [rsV M D S st L p e] [] (.row 1 ((sacB M D st).map be)) [] := by
 obtain ⟨cs, s, f⟩ := st
 dsimp only at hX hc hs
 have n1 := refPutO_fn (L := []) (n := s - 1) (m := 3) (by decide) (by omega) (by decide) (by show s - 1 < 2 ^ 3; omega) (by decide)
 have hs1 : (s : Int) - 1 = ((s - 1 : Nat) : Int) := by omega
 have hpM : 2 ^ M ≤ 2 ^ 16 := Nat.pow_le_pow_right (by decide) hM
 have hpD : 2 ^ D ≤ 2 ^ 4 := Nat.pow_le_pow_right (by decide) hD
 have hnl := numBits_len (s - 1) 3
 rw [List.nil_append, show ((3 : Nat) : Int) = 3 from rfl, show ([] : List Bool).length + 3 = 3 from rfl] at n1
 unfold sacB
 dsimp only
 refine fn1N_of pl25 (by kernel_rfl) Tryz.call25 Tryz.func25 rfl (by kernel_rfl) rfl [.tmp 2] (by kernel_rfl) fun Q hQ => ?_
 simp (maxSteps := 1000000) (disch := (first | omega | (simp only [lnA, List.length_map, List.length_range, true_and, and_true]; (try omega); done) | fail)) only [go_sem, hs1, Int.reduceEq, Int.reduceToNat, Nat.reduceAdd, Nat.reduceMul, Nat.reduceEqDiff, ↓reduceIte]
 refine callW [] [] (n1) ?_
 simp (maxSteps := 1000000) (disch := (first | omega | (simp only [lnA, List.length_map, List.length_range, true_and, and_true]; (try omega); done) | fail)) only [go_sem, Int.reduceEq, Int.reduceToNat, Nat.reduceAdd, Nat.reduceMul, Nat.reduceEqDiff, ↓reduceIte]
 refine LoopV_of (X := Nat) (st := fun i => ([(1, .ref 0 0 0 0), (3, .row 1 ((numBits (s - 1) 3 ++ [f] ++ scB M D (cs.take i)).map be)), (5, .lit (.int .i64 (i : Int)))], [some (.cells (rsC M D S (cs, s, f) L p e))]))
  (inv := fun i => i ≤ cs.length) (m := fun i => cs.length - i) 0 [some 0] rfl (by simp (disch := (first | omega | (simp only [lnA, List.length_map, List.length_range, true_and, and_true]; (try omega); done) | fail)) only [go_sem, Int.reduceEq, Int.reduceToNat, Nat.reduceAdd, Nat.reduceMul, Nat.reduceEqDiff, ↓reduceIte, true_and, and_true, and_self, List.drop_zero, List.take_length, Nat.le_refl, V.lit.injEq, Value.int.injEq, Value.bool.injEq]; try (first | omega | (simp; done) | (simp; omega))) (by simp only [List.take_zero, scB, List.flatMap_nil, List.append_nil, List.map_append, List.map_cons, List.map_nil]; (simp (disch := (first | omega | (simp only [lnA, List.length_map, List.length_range, true_and, and_true]; (try omega); done) | fail)) only [go_sem, Int.reduceEq, Int.reduceToNat, Nat.reduceAdd, Nat.reduceMul, Nat.reduceEqDiff, ↓reduceIte, true_and, and_true, and_self, List.drop_zero, List.take_length, Nat.le_refl, V.lit.injEq, Value.int.injEq, Value.bool.injEq]; try (first | omega | (simp; done) | (simp; omega))); rw [List.take_of_length_le (by simp [hnl])]; simp [hnl]) (Nat.zero_le _) ?_
 intro i hi
 by_cases hil : i < cs.length
 ·
  have hgi : cs[i]? = some cs[i] := List.getElem?_eq_getElem hil
  have hget : cs.getD i default = cs[i] := by rw [List.getD_eq_getElem?_getD, hgi]; rfl
  have htk := scB_take (M := M) (D := D) hgi
  have hcx := hc cs[i] (List.getElem_mem hil)
  have hsl := scB_len M D (cs.take i)
  have hsl2 : (cs.take i).length * (M + D) ≤ 256 * 20 := Nat.mul_le_mul (by rw [List.length_take]; omega) (by omega)
  have hml : (numBits (s - 1) 3 ++ [f] ++ scB M D (cs.take i)).length < 10010 := by rw [List.length_append, List.length_append, numBits_len, List.length_singleton]; omega
  have e2 : numBits (s - 1) 3 ++ [f] ++ scB M D (cs.take (i + 1)) = numBits (s - 1) 3 ++ [f] ++ scB M D (cs.take i) ++ numBits cs[i].1 M ++ numBits cs[i].2 D := by rw [htk]; simp
  clear htk hsl hsl2 hgi
  generalize cs[i] = x at *
  generalize numBits (s - 1) 3 ++ [f] ++ scB M D (cs.take i) = M1 at *
  have n2 := refPut_fn (L := M1) (n := x.1) (m := M) (by omega) (by omega) (by omega) hcx.1
  have n3 := refPut_fn (L := M1 ++ numBits x.1 M) (n := x.2) (m := D) (by rw [List.length_append, numBits_len]; omega) (by omega) (by omega) hcx.2
  rw [← e2] at n3
  simp (maxSteps := 1000000) (disch := (first | omega | (simp only [lnA, List.length_map, List.length_range, true_and, and_true]; (try omega); done) | fail)) only [go_sem, hget, Int.reduceEq, Int.reduceToNat, Nat.reduceAdd, Nat.reduceMul, Nat.reduceEqDiff, ↓reduceIte]
  refine callV0 (n2) rfl rfl ?_
  simp (maxSteps := 1000000) (disch := (first | omega | (simp only [lnA, List.length_map, List.length_range, true_and, and_true]; (try omega); done) | fail)) only [go_sem, hget, Int.reduceEq, Int.reduceToNat, Nat.reduceAdd, Nat.reduceMul, Nat.reduceEqDiff, ↓reduceIte]
  refine callV0 (n3) rfl rfl ?_
  simp (maxSteps := 1000000) (disch := (first | omega | (simp only [lnA, List.length_map, List.length_range, true_and, and_true]; (try omega); done) | fail)) only [go_sem, Int.reduceEq, Int.reduceToNat, Nat.reduceAdd, Nat.reduceMul, Nat.reduceEqDiff, ↓reduceIte]
  refine nextW (i + 1) [some 0] hil (by omega)
 ·
  obtain rfl : i = cs.length := by omega
  rw [List.take_length]
  simp (maxSteps := 1000000) (disch := (first | omega | (simp only [lnA, List.length_map, List.length_range, true_and, and_true]; (try omega); done) | fail)) only [go_sem, Int.reduceEq, Int.reduceToNat, Nat.reduceAdd, Nat.reduceMul, Nat.reduceEqDiff, ↓reduceIte]
  exact endW [] hQ
def rrV (M D S n : Nat) (L : List Bool) : V := match (srR L M D S n 0).1 with
 | some st => .tup [rsV M D S st [] 0 0, .lit (.int .i64 ((srR L M D S n 0).2.1 : Int)), .lit (.int .i64 0)]
 | none => .tup [.agg [.lit (.int .i64 0), .lit (.int .i64 0), .lit (.int .i64 0), .lit (.slice none 0 0), .lit (.int .i64 0), .lit (.bool false), .lit (.slice none 0 0), .lit (.int .i64 0), .lit (.int .i64 0)], .lit (.int .i64 0), .lit (.int .i64 (srR L M D S n 0).2.2)]
set_option maxHeartbeats 8000000 in
theorem rsread_fn {M D S n : Nat} {L : List Bool} (h : goodS M D S) (hn : 1 ≤ n ∧ n ≤ 256) (hL : L.length ≤ 1099511627776) :
  Fn1 Tryz.prog 32 [.row 1 (L.map be), pA M D S, .lit (.int .i64 (n : Int))] [] (rrV M D S n L) [] := by
 have gd := rgood_fn (M := (M : Int)) (D := (D : Int)) (S := (S : Int))
 rw [decide_eq_true h] at gd
 have hM : 1 ≤ M ∧ M ≤ 16 := by have := h.1; omega
 have hD : 1 ≤ D ∧ D ≤ 4 := by have := h.2.1; omega
 have hS : 1 ≤ S ∧ S ≤ 8 := by have := h.2.2; omega
 refine fn1N_of pl32 (by kernel_rfl) Tryz.call32 Tryz.func32 rfl (by kernel_rfl) rfl [.cell 6 66, .tmp 7, .tmp 8] (by kernel_rfl) fun Q hQ => ?_
 unfold rrV srR at hQ
 by_cases h4 : 0 + 4 ≤ L.length
 ·
  rw [if_pos h4] at hQ
  have r3 := refGetX_fn (L := L) (p := 0) (w := ((3 : Nat) : Int)) hL (Nat.zero_le _)
  rw [rX_ok (by decide) (by omega)] at r3
  dsimp only at r3
  have hk : numOf ((L.drop 0).take 3) < 8 := numOf_take_lt _ 3
  rw [show ((3 : Nat) : Int) = 3 from rfl, show ((0 : Nat) : Int) = 0 from rfl] at r3
  try rw [show ((0 + 3 : Nat) : Int) = 3 from rfl] at r3
  rw [show (0 : Nat) + 3 = 3 from rfl] at hQ
  generalize numOf ((L.drop 0).take 3) = s0 at *
  generalize hg3 : L.getD 3 false = fl at hQ
  have hs1 : (s0 : Int) + 1 = ((s0 + 1 : Nat) : Int) := by omega
  by_cases c1 : S < s0 + 1
  ·
   rw [if_pos (.inl c1)] at hQ
   dsimp only at hQ
   simp (maxSteps := 1000000) (disch := (first | omega | (simp only [lnA, List.length_map, List.length_range, true_and, and_true]; (try omega); done) | fail)) only [go_sem, Int.reduceEq, Int.reduceToNat, Nat.reduceAdd, Nat.reduceMul, Nat.reduceEqDiff, ↓reduceIte]
   refine callV0 (gd) rfl rfl ?_
   simp (maxSteps := 1000000) (disch := (first | omega | (simp only [lnA, List.length_map, List.length_range, true_and, and_true]; (try omega); done) | fail)) only [go_sem, Int.reduceEq, Int.reduceToNat, Nat.reduceAdd, Nat.reduceMul, Nat.reduceEqDiff, ↓reduceIte]
   refine callV0 (r3) rfl rfl ?_
   simp (maxSteps := 1000000) (disch := (first | omega | (simp only [lnA, List.length_map, List.length_range, true_and, and_true]; (try omega); done) | fail)) only [go_sem, hs1, hg3, Int.reduceEq, Int.reduceToNat, Nat.reduceAdd, Nat.reduceMul, Nat.reduceEqDiff, ↓reduceIte]
   exact endW [] hQ
  ·
   by_cases c2 : fl = true ∧ s0 + 1 < S
   ·
    rw [if_pos (.inr c2)] at hQ
    obtain ⟨rfl, c2⟩ := c2
    dsimp only at hQ
    simp (maxSteps := 1000000) (disch := (first | omega | (simp only [lnA, List.length_map, List.length_range, true_and, and_true]; (try omega); done) | fail)) only [go_sem, Int.reduceEq, Int.reduceToNat, Nat.reduceAdd, Nat.reduceMul, Nat.reduceEqDiff, ↓reduceIte]
    refine callV0 (gd) rfl rfl ?_
    simp (maxSteps := 1000000) (disch := (first | omega | (simp only [lnA, List.length_map, List.length_range, true_and, and_true]; (try omega); done) | fail)) only [go_sem, Int.reduceEq, Int.reduceToNat, Nat.reduceAdd, Nat.reduceMul, Nat.reduceEqDiff, ↓reduceIte]
    refine callV0 (r3) rfl rfl ?_
    simp (maxSteps := 1000000) (disch := (first | omega | (simp only [lnA, List.length_map, List.length_range, true_and, and_true]; (try omega); done) | fail)) only [go_sem, hs1, hg3, Int.reduceEq, Int.reduceToNat, Nat.reduceAdd, Nat.reduceMul, Nat.reduceEqDiff, ↓reduceIte]
    exact endW [] hQ
   ·
    rw [if_neg (fun h => h.elim c1 c2)] at hQ
    simp (maxSteps := 1000000) (disch := (first | omega | (simp only [lnA, List.length_map, List.length_range, true_and, and_true]; (try omega); done) | fail)) only [go_sem, Int.reduceEq, Int.reduceToNat, Nat.reduceAdd, Nat.reduceMul, Nat.reduceEqDiff, ↓reduceIte]
    refine callV0 (gd) rfl rfl ?_
    simp (maxSteps := 1000000) (disch := (first | omega | (simp only [lnA, List.length_map, List.length_range, true_and, and_true]; (try omega); done) | fail)) only [go_sem, Int.reduceEq, Int.reduceToNat, Nat.reduceAdd, Nat.reduceMul, Nat.reduceEqDiff, ↓reduceIte]
    refine callV0 (r3) rfl rfl ?_
    cases hfl : fl with
    | true =>
     subst hfl
     have c3 : ¬ s0 + 1 < S := fun h => c2 ⟨rfl, h⟩
     simp (maxSteps := 1000000) (disch := (first | omega | (simp only [lnA, List.length_map, List.length_range, true_and, and_true]; (try omega); done) | fail)) only [go_sem, hs1, hg3, Int.reduceEq, Int.reduceToNat, Nat.reduceAdd, Nat.reduceMul, Nat.reduceEqDiff, ↓reduceIte]
     refine loopW (X := Nat × List Cell × Nat) (st := fun y => ([(0, .row 1 (L.map be)), (2, .lit (.int .i64 (n : Int))), (4, .ref 0 0 0 0), (6, .ref 1 0 0 0), (10, .lit (.int .i64 (y.2.2 : Int))), (12, .ref 2 0 0 0), (13, .lit (.int .i64 (y.1 : Int)))],
       [some (.cells [.lit (.int .i64 (M : Int)), .lit (.int .i64 (D : Int)), .lit (.int .i64 (S : Int))]), some (.cells z9C), some (.cells [.lit (.int .i64 (M : Int)), .lit (.int .i64 (D : Int)), .lit (.int .i64 (S : Int)), .sl 3 2 0 y.1, .lit (.int .i64 ((s0 + 1 : Nat) : Int)), .lit (.bool true), .lit (.slice none 0 0), .lit (.int .i64 0), .lit (.int .i64 0)]), some (.row 2 (y.2.1.map cV))]))
      (inv := fun y => y.1 ≤ n ∧ y.2.1.length = y.1 ∧ y.2.2 ≤ L.length ∧ rdS L M D n (0 + 4) = ((rdS L M D (n - y.1) y.2.2).1.map (y.2.1 ++ ·), (rdS L M D (n - y.1) y.2.2).2)) (m := fun y => n - y.1)
      (0, [], 4) [some 0, some 1, some 2, none] ⟨Nat.zero_le _, rfl, h4, by simp⟩ ?_
     rintro ⟨i, Y, q⟩ ⟨hi, hY, hq, hr⟩
     dsimp only at hi hY hq hr ⊢
     by_cases hil : i < n
     ·
      obtain ⟨c, hc⟩ : ∃ c, n - i = c + 1 := ⟨n - i - 1, by omega⟩
      rw [hc] at hr
      by_cases h2 : q + (M + D) ≤ L.length
      ·
       have ra := refGetX_fn (L := L) (p := q) (w := (M : Int)) hL hq
       have rb := refGetX_fn (L := L) (p := q + M) (w := (D : Int)) hL (by omega)
       rw [rX_ok (by omega) (by omega)] at ra rb
       dsimp only at ra rb
       have ka : numOf ((L.drop q).take M) < 2 ^ M := numOf_take_lt _ M
       have kb : numOf ((L.drop (q + M)).take D) < 2 ^ D := numOf_take_lt _ D
       have hpM : 2 ^ M ≤ 2 ^ 16 := Nat.pow_le_pow_right (by decide) hM.2
       have hpD : 2 ^ D ≤ 2 ^ 4 := Nat.pow_le_pow_right (by decide) hD.2
       rw [rdS_succ] at hr
       rw [if_pos h2] at hr
       generalize numOf ((L.drop q).take M) = a at *
       generalize numOf ((L.drop (q + M)).take D) = b at *
       generalize 2 ^ M = pM at *
       generalize 2 ^ D = pD at *
       by_cases c5 : a = 0 ∧ 0 < b
       ·
        rw [if_pos c5] at hr
        rw [hr] at hQ
        dsimp only [Option.map] at hQ
        obtain ⟨rfl, c6⟩ := c5
        simp (maxSteps := 1000000) (disch := (first | omega | (simp only [lnA, List.length_map, List.length_range, true_and, and_true]; (try omega); done) | fail)) only [go_sem, Int.reduceEq, Int.reduceToNat, Nat.reduceAdd, Nat.reduceMul, Nat.reduceEqDiff, ↓reduceIte]
        refine callV0 (ra) rfl rfl ?_
        simp (maxSteps := 1000000) (disch := (first | omega | (simp only [lnA, List.length_map, List.length_range, true_and, and_true]; (try omega); done) | fail)) only [go_sem, Int.reduceEq, Int.reduceToNat, Nat.reduceAdd, Nat.reduceMul, Nat.reduceEqDiff, ↓reduceIte]
        refine callV0 (rb) rfl rfl ?_
        simp (maxSteps := 1000000) (disch := (first | omega | (simp only [lnA, List.length_map, List.length_range, true_and, and_true]; (try omega); done) | fail)) only [go_sem, Int.reduceEq, Int.reduceToNat, Nat.reduceAdd, Nat.reduceMul, Nat.reduceEqDiff, ↓reduceIte]
        exact endW [] hQ
       ·
        rw [if_neg c5] at hr
        have hmp : (Y ++ [(a, b)]).map cV = Y.map cV ++ [[.lit (.int .i64 (a : Int)), .lit (.int .i64 (b : Int))]] := by rw [List.map_append]; rfl
        have hnx : ((rdS L M D c (q + M + D)).1.map ((Y ++ [(a, b)]) ++ ·), (rdS L M D c (q + M + D)).2) = rdS L M D n (0 + 4) := by
         rw [hr, Option.map_map]
         congr 2
         funext l
         simp
        rw [← show n - (i + 1) = c by omega] at hnx
        by_cases c6 : a = 0
        ·
         have c7 : b = 0 := by omega
         subst c6 c7
         simp (maxSteps := 1000000) (disch := (first | omega | (simp only [lnA, List.length_map, List.length_range, true_and, and_true]; (try omega); done) | fail)) only [go_sem, Int.reduceEq, Int.reduceToNat, Nat.reduceAdd, Nat.reduceMul, Nat.reduceEqDiff, ↓reduceIte]
         refine callV0 (ra) rfl rfl ?_
         simp (maxSteps := 1000000) (disch := (first | omega | (simp only [lnA, List.length_map, List.length_range, true_and, and_true]; (try omega); done) | fail)) only [go_sem, Int.reduceEq, Int.reduceToNat, Nat.reduceAdd, Nat.reduceMul, Nat.reduceEqDiff, ↓reduceIte]
         refine callV0 (rb) rfl rfl ?_
         simp (maxSteps := 1000000) (disch := (first | omega | (simp only [lnA, List.length_map, List.length_range, true_and, and_true]; (try omega); done) | fail)) only [go_sem, Int.reduceEq, Int.reduceToNat, Nat.reduceAdd, Nat.reduceMul, Nat.reduceEqDiff, ↓reduceIte]
         refine NextV_of (i + 1, Y ++ [(0, 0)], q + M + D) [some 0, some 1, some 2, some 5] rfl (by dsimp only; rw [hmp]; (simp (disch := (first | omega | (simp only [lnA, List.length_map, List.length_range, true_and, and_true]; (try omega); done) | fail)) only [go_sem, Int.reduceEq, Int.reduceToNat, Nat.reduceAdd, Nat.reduceMul, Nat.reduceEqDiff, ↓reduceIte, true_and, and_true, and_self, List.drop_zero, List.take_length, Nat.le_refl, V.lit.injEq, Value.int.injEq, Value.bool.injEq]; try (first | omega | (simp; done) | (simp; omega)))) (by simp (disch := (first | omega | (simp only [lnA, List.length_map, List.length_range, true_and, and_true]; (try omega); done) | fail)) only [go_sem, Int.reduceEq, Int.reduceToNat, Nat.reduceAdd, Nat.reduceMul, Nat.reduceEqDiff, ↓reduceIte, true_and, and_true, and_self, List.drop_zero, List.take_length, Nat.le_refl, V.lit.injEq, Value.int.injEq, Value.bool.injEq]; try (first | omega | (simp; done) | (simp; omega))) ⟨hil, by rw [List.length_append, hY]; rfl, by dsimp only; omega, hnx.symm⟩ (by dsimp only; omega)
        ·
         simp (maxSteps := 1000000) (disch := (first | omega | (simp only [lnA, List.length_map, List.length_range, true_and, and_true]; (try omega); done) | fail)) only [go_sem, Int.reduceEq, Int.reduceToNat, Nat.reduceAdd, Nat.reduceMul, Nat.reduceEqDiff, ↓reduceIte]
         refine callV0 (ra) rfl rfl ?_
         simp (maxSteps := 1000000) (disch := (first | omega | (simp only [lnA, List.length_map, List.length_range, true_and, and_true]; (try omega); done) | fail)) only [go_sem, Int.reduceEq, Int.reduceToNat, Nat.reduceAdd, Nat.reduceMul, Nat.reduceEqDiff, ↓reduceIte]
         refine callV0 (rb) rfl rfl ?_
         simp (maxSteps := 1000000) (disch := (first | omega | (simp only [lnA, List.length_map, List.length_range, true_and, and_true]; (try omega); done) | fail)) only [go_sem, Int.reduceEq, Int.reduceToNat, Nat.reduceAdd, Nat.reduceMul, Nat.reduceEqDiff, ↓reduceIte]
         refine NextV_of (i + 1, Y ++ [(a, b)], q + M + D) [some 0, some 1, some 2, some 5] rfl (by dsimp only; rw [hmp]; (simp (disch := (first | omega | (simp only [lnA, List.length_map, List.length_range, true_and, and_true]; (try omega); done) | fail)) only [go_sem, Int.reduceEq, Int.reduceToNat, Nat.reduceAdd, Nat.reduceMul, Nat.reduceEqDiff, ↓reduceIte, true_and, and_true, and_self, List.drop_zero, List.take_length, Nat.le_refl, V.lit.injEq, Value.int.injEq, Value.bool.injEq]; try (first | omega | (simp; done) | (simp; omega)))) (by simp (disch := (first | omega | (simp only [lnA, List.length_map, List.length_range, true_and, and_true]; (try omega); done) | fail)) only [go_sem, Int.reduceEq, Int.reduceToNat, Nat.reduceAdd, Nat.reduceMul, Nat.reduceEqDiff, ↓reduceIte, true_and, and_true, and_self, List.drop_zero, List.take_length, Nat.le_refl, V.lit.injEq, Value.int.injEq, Value.bool.injEq]; try (first | omega | (simp; done) | (simp; omega))) ⟨hil, by rw [List.length_append, hY]; rfl, by dsimp only; omega, hnx.symm⟩ (by dsimp only; omega)
      ·
       rw [rdS_succ] at hr
       rw [if_neg h2] at hr
       rw [hr] at hQ
       dsimp only [Option.map] at hQ
       simp (maxSteps := 1000000) (disch := (first | omega | (simp only [lnA, List.length_map, List.length_range, true_and, and_true]; (try omega); done) | fail)) only [go_sem, Int.reduceEq, Int.reduceToNat, Nat.reduceAdd, Nat.reduceMul, Nat.reduceEqDiff, ↓reduceIte]
       exact endW [] hQ
     ·
      obtain rfl : i = n := by omega
      rw [Nat.sub_self] at hr
      rw [hr, rdS_zero] at hQ
      dsimp only [Option.map] at hQ
      rw [List.append_nil] at hQ
      simp (maxSteps := 1000000) (disch := (first | omega | (simp only [lnA, List.length_map, List.length_range, true_and, and_true]; (try omega); done) | fail)) only [go_sem, Int.reduceEq, Int.reduceToNat, Nat.reduceAdd, Nat.reduceMul, Nat.reduceEqDiff, ↓reduceIte]
      exact endW [] hQ
    | false =>
     subst hfl
     simp (maxSteps := 1000000) (disch := (first | omega | (simp only [lnA, List.length_map, List.length_range, true_and, and_true]; (try omega); done) | fail)) only [go_sem, hs1, hg3, Int.reduceEq, Int.reduceToNat, Nat.reduceAdd, Nat.reduceMul, Nat.reduceEqDiff, ↓reduceIte]
     refine loopW (X := Nat × List Cell × Nat) (st := fun y => ([(0, .row 1 (L.map be)), (2, .lit (.int .i64 (n : Int))), (4, .ref 0 0 0 0), (6, .ref 1 0 0 0), (10, .lit (.int .i64 (y.2.2 : Int))), (12, .ref 2 0 0 0), (13, .lit (.int .i64 (y.1 : Int)))],
       [some (.cells [.lit (.int .i64 (M : Int)), .lit (.int .i64 (D : Int)), .lit (.int .i64 (S : Int))]), some (.cells z9C), some (.cells [.lit (.int .i64 (M : Int)), .lit (.int .i64 (D : Int)), .lit (.int .i64 (S : Int)), .sl 3 2 0 y.1, .lit (.int .i64 ((s0 + 1 : Nat) : Int)), .lit (.bool false), .lit (.slice none 0 0), .lit (.int .i64 0), .lit (.int .i64 0)]), some (.row 2 (y.2.1.map cV))]))
      (inv := fun y => y.1 ≤ n ∧ y.2.1.length = y.1 ∧ y.2.2 ≤ L.length ∧ rdS L M D n (0 + 4) = ((rdS L M D (n - y.1) y.2.2).1.map (y.2.1 ++ ·), (rdS L M D (n - y.1) y.2.2).2)) (m := fun y => n - y.1)
      (0, [], 4) [some 0, some 1, some 2, none] ⟨Nat.zero_le _, rfl, h4, by simp⟩ ?_
     rintro ⟨i, Y, q⟩ ⟨hi, hY, hq, hr⟩
     dsimp only at hi hY hq hr ⊢
     by_cases hil : i < n
     ·
      obtain ⟨c, hc⟩ : ∃ c, n - i = c + 1 := ⟨n - i - 1, by omega⟩
      rw [hc] at hr
      by_cases h2 : q + (M + D) ≤ L.length
      ·
       have ra := refGetX_fn (L := L) (p := q) (w := (M : Int)) hL hq
       have rb := refGetX_fn (L := L) (p := q + M) (w := (D : Int)) hL (by omega)
       rw [rX_ok (by omega) (by omega)] at ra rb
       dsimp only at ra rb
       have ka : numOf ((L.drop q).take M) < 2 ^ M := numOf_take_lt _ M
       have kb : numOf ((L.drop (q + M)).take D) < 2 ^ D := numOf_take_lt _ D
       have hpM : 2 ^ M ≤ 2 ^ 16 := Nat.pow_le_pow_right (by decide) hM.2
       have hpD : 2 ^ D ≤ 2 ^ 4 := Nat.pow_le_pow_right (by decide) hD.2
       rw [rdS_succ] at hr
       rw [if_pos h2] at hr
       generalize numOf ((L.drop q).take M) = a at *
       generalize numOf ((L.drop (q + M)).take D) = b at *
       generalize 2 ^ M = pM at *
       generalize 2 ^ D = pD at *
       by_cases c5 : a = 0 ∧ 0 < b
       ·
        rw [if_pos c5] at hr
        rw [hr] at hQ
        dsimp only [Option.map] at hQ
        obtain ⟨rfl, c6⟩ := c5
        simp (maxSteps := 1000000) (disch := (first | omega | (simp only [lnA, List.length_map, List.length_range, true_and, and_true]; (try omega); done) | fail)) only [go_sem, Int.reduceEq, Int.reduceToNat, Nat.reduceAdd, Nat.reduceMul, Nat.reduceEqDiff, ↓reduceIte]
        refine callV0 (ra) rfl rfl ?_
        simp (maxSteps := 1000000) (disch := (first | omega | (simp only [lnA, List.length_map, List.length_range, true_and, and_true]; (try omega); done) | fail)) only [go_sem, Int.reduceEq, Int.reduceToNat, Nat.reduceAdd, Nat.reduceMul, Nat.reduceEqDiff, ↓reduceIte]
        refine callV0 (rb) rfl rfl ?_
        simp (maxSteps := 1000000) (disch := (first | omega | (simp only [lnA, List.length_map, List.length_range, true_and, and_true]; (try omega); done) | fail)) only [go_sem, Int.reduceEq, Int.reduceToNat, Nat.reduceAdd, Nat.reduceMul, Nat.reduceEqDiff, ↓reduceIte]
        exact endW [] hQ
       ·
        rw [if_neg c5] at hr
        have hmp : (Y ++ [(a, b)]).map cV = Y.map cV ++ [[.lit (.int .i64 (a : Int)), .lit (.int .i64 (b : Int))]] := by rw [List.map_append]; rfl
        have hnx : ((rdS L M D c (q + M + D)).1.map ((Y ++ [(a, b)]) ++ ·), (rdS L M D c (q + M + D)).2) = rdS L M D n (0 + 4) := by
         rw [hr, Option.map_map]
         congr 2
         funext l
         simp
        rw [← show n - (i + 1) = c by omega] at hnx
        by_cases c6 : a = 0
        ·
         have c7 : b = 0 := by omega
         subst c6 c7
         simp (maxSteps := 1000000) (disch := (first | omega | (simp only [lnA, List.length_map, List.length_range, true_and, and_true]; (try omega); done) | fail)) only [go_sem, Int.reduceEq, Int.reduceToNat, Nat.reduceAdd, Nat.reduceMul, Nat.reduceEqDiff, ↓reduceIte]
         refine callV0 (ra) rfl rfl ?_
         simp (maxSteps := 1000000) (disch := (first | omega | (simp only [lnA, List.length_map, List.length_range, true_and, and_true]; (try omega); done) | fail)) only [go_sem, Int.reduceEq, Int.reduceToNat, Nat.reduceAdd, Nat.reduceMul, Nat.reduceEqDiff, ↓reduceIte]
         refine callV0 (rb) rfl rfl ?_
         simp (maxSteps := 1000000) (disch := (first | omega | (simp only [lnA, List.length_map, List.length_range, true_and, and_true]; (try omega); done) | fail)) only [go_sem, Int.reduceEq, Int.reduceToNat, Nat.reduceAdd, Nat.reduceMul, Nat.reduceEqDiff, ↓reduceIte]
         refine NextV_of (i + 1, Y ++ [(0, 0)], q + M + D) [some 0, some 1, some 2, some 5] rfl (by dsimp only; rw [hmp]; (simp (disch := (first | omega | (simp only [lnA, List.length_map, List.length_range, true_and, and_true]; (try omega); done) | fail)) only [go_sem, Int.reduceEq, Int.reduceToNat, Nat.reduceAdd, Nat.reduceMul, Nat.reduceEqDiff, ↓reduceIte, true_and, and_true, and_self, List.drop_zero, List.take_length, Nat.le_refl, V.lit.injEq, Value.int.injEq, Value.bool.injEq]; try (first | omega | (simp; done) | (simp; omega)))) (by simp (disch := (first | omega | (simp only [lnA, List.length_map, List.length_range, true_and, and_true]; (try omega); done) | fail)) only [go_sem, Int.reduceEq, Int.reduceToNat, Nat.reduceAdd, Nat.reduceMul, Nat.reduceEqDiff, ↓reduceIte, true_and, and_true, and_self, List.drop_zero, List.take_length, Nat.le_refl, V.lit.injEq, Value.int.injEq, Value.bool.injEq]; try (first | omega | (simp; done) | (simp; omega))) ⟨hil, by rw [List.length_append, hY]; rfl, by dsimp only; omega, hnx.symm⟩ (by dsimp only; omega)
        ·
         simp (maxSteps := 1000000) (disch := (first | omega | (simp only [lnA, List.length_map, List.length_range, true_and, and_true]; (try omega); done) | fail)) only [go_sem, Int.reduceEq, Int.reduceToNat, Nat.reduceAdd, Nat.reduceMul, Nat.reduceEqDiff, ↓reduceIte]
         refine callV0 (ra) rfl rfl ?_
         simp (maxSteps := 1000000) (disch := (first | omega | (simp only [lnA, List.length_map, List.length_range, true_and, and_true]; (try omega); done) | fail)) only [go_sem, Int.reduceEq, Int.reduceToNat, Nat.reduceAdd, Nat.reduceMul, Nat.reduceEqDiff, ↓reduceIte]
         refine callV0 (rb) rfl rfl ?_
         simp (maxSteps := 1000000) (disch := (first | omega | (simp only [lnA, List.length_map, List.length_range, true_and, and_true]; (try omega); done) | fail)) only [go_sem, Int.reduceEq, Int.reduceToNat, Nat.reduceAdd, Nat.reduceMul, Nat.reduceEqDiff, ↓reduceIte]
         refine NextV_of (i + 1, Y ++ [(a, b)], q + M + D) [some 0, some 1, some 2, some 5] rfl (by dsimp only; rw [hmp]; (simp (disch := (first | omega | (simp only [lnA, List.length_map, List.length_range, true_and, and_true]; (try omega); done) | fail)) only [go_sem, Int.reduceEq, Int.reduceToNat, Nat.reduceAdd, Nat.reduceMul, Nat.reduceEqDiff, ↓reduceIte, true_and, and_true, and_self, List.drop_zero, List.take_length, Nat.le_refl, V.lit.injEq, Value.int.injEq, Value.bool.injEq]; try (first | omega | (simp; done) | (simp; omega)))) (by simp (disch := (first | omega | (simp only [lnA, List.length_map, List.length_range, true_and, and_true]; (try omega); done) | fail)) only [go_sem, Int.reduceEq, Int.reduceToNat, Nat.reduceAdd, Nat.reduceMul, Nat.reduceEqDiff, ↓reduceIte, true_and, and_true, and_self, List.drop_zero, List.take_length, Nat.le_refl, V.lit.injEq, Value.int.injEq, Value.bool.injEq]; try (first | omega | (simp; done) | (simp; omega))) ⟨hil, by rw [List.length_append, hY]; rfl, by dsimp only; omega, hnx.symm⟩ (by dsimp only; omega)
      ·
       rw [rdS_succ] at hr
       rw [if_neg h2] at hr
       rw [hr] at hQ
       dsimp only [Option.map] at hQ
       simp (maxSteps := 1000000) (disch := (first | omega | (simp only [lnA, List.length_map, List.length_range, true_and, and_true]; (try omega); done) | fail)) only [go_sem, Int.reduceEq, Int.reduceToNat, Nat.reduceAdd, Nat.reduceMul, Nat.reduceEqDiff, ↓reduceIte]
       exact endW [] hQ
     ·
      obtain rfl : i = n := by omega
      rw [Nat.sub_self] at hr
      rw [hr, rdS_zero] at hQ
      dsimp only [Option.map] at hQ
      rw [List.append_nil] at hQ
      simp (maxSteps := 1000000) (disch := (first | omega | (simp only [lnA, List.length_map, List.length_range, true_and, and_true]; (try omega); done) | fail)) only [go_sem, Int.reduceEq, Int.reduceToNat, Nat.reduceAdd, Nat.reduceMul, Nat.reduceEqDiff, ↓reduceIte]
      exact endW [] hQ
 ·
  rw [if_neg h4] at hQ
  dsimp only at hQ
  simp (maxSteps := 1000000) (disch := (first | omega | (simp only [lnA, List.length_map, List.length_range, true_and, and_true]; (try omega); done) | fail)) only [go_sem, Int.reduceEq, Int.reduceToNat, Nat.reduceAdd, Nat.reduceMul, Nat.reduceEqDiff, ↓reduceIte]
  refine callV0 (gd) rfl rfl ?_
  simp (maxSteps := 1000000) (disch := (first | omega | (simp only [lnA, List.length_map, List.length_range, true_and, and_true]; (try omega); done) | fail)) only [go_sem, Int.reduceEq, Int.reduceToNat, Nat.reduceAdd, Nat.reduceMul, Nat.reduceEqDiff, ↓reduceIte]
  exact endW [] hQ
end Go.Proofs.YtpkfddfkacijoaaGreatDoor
