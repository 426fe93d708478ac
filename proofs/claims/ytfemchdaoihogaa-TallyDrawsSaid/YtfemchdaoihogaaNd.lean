import Derived.Test.YtfemchdaoihogaaNc
import Derived.Test.YtfemchdaoihogaaMu
/-! Package nat: products. -/
namespace Go.Proofs.Ytfemchdaoihogaa
open Go.Eng Go.Vx
set_option linter.unusedSimpArgs false
set_option linter.unusedVariables false
set_option maxRecDepth 100000
theorem mul_digit {p u c : Nat} (hp : p ≤ 18446744073709551615 * 18446744073709551615) (hu : u < 18446744073709551616) (hc : c < 18446744073709551616) :
    ((p % 18446744073709551616 + u + 0) % 18446744073709551616 + c + 0) % 18446744073709551616 = (u + c + p) % 18446744073709551616 ∧
    p / 18446744073709551616 + (p % 18446744073709551616 + u + 0) / 18446744073709551616 + ((p % 18446744073709551616 + u + 0) % 18446744073709551616 + c + 0) / 18446744073709551616 = (u + c + p) / 18446744073709551616 ∧
    (u + c + p) / 18446744073709551616 < 18446744073709551616 := by
  have e : 18446744073709551615 * 18446744073709551615 = 340282366920938463426481119284349108225 := by decide
  rw [e] at hp
  refine ⟨?_, ?_, ?_⟩ <;> omega
set_option maxHeartbeats 4000000 in
theorem nmul_fn {a b : Nat} (ha : (wg a).length ≤ 1000000) (hb : (wg b).length ≤ 1000000) : Fn1 Try.prog 72 [NV a, NV b] [] (NV (a * b)) [] := by
  refine fn1_of pl72 (by kernel_rfl) Try.call72 Try.func72 rfl (by kernel_rfl) rfl [.cell 4 39] (by kernel_rfl) fun Q hQ => ?_
  have hal := wg_lt a
  have hbl := wg_lt b
  have hav := wg_val a
  have hbv := wg_val b
  have hnA := nl_len (wg a)
  have hnB := nl_len (wg b)
  simp (maxSteps := 1000000) (disch := (first | omega | (simp only [List.length_append, List.length_set, List.length_cons, List.length_nil, List.length_replicate, List.length_take, List.length_drop, List.length_map, List.length_range, true_and, and_true]; (try omega); done) | fail)) only [go_sem, Int.reduceEq, Int.reduceToNat, Nat.reduceAdd, Nat.reduceMul, Nat.reduceEqDiff, ↓reduceIte]
  refine LoopV_of (X := Nat × List Nat) (st := fun z => ([(2, .ref 0 0 0 0), (3, .ref 1 0 0 0), (4, .ref 2 0 0 0), (5, .sl 3 1 0 ((wg a).length + (wg b).length)), (23, .row 1 ((nl (wg a)).map (ie .u64))), (24, .lit (.int .i64 ((wg a).length : Int))), (25, .lit (.int .i64 (z.1 : Int)))],
      [some (.cells [.row 1 ((nl (wg a)).map (ie .u64))]), some (.cells [.row 1 ((nl (wg b)).map (ie .u64))]), some (.cells [.lit (.slice none 0 0)]), some (.row 1 ((nl z.2).map (ie .u64)))]))
    (inv := fun z => z.1 ≤ (wg a).length ∧ z.2.length = (wg a).length + (wg b).length ∧ (∀ d ∈ z.2, d < 18446744073709551616) ∧ valB 18446744073709551616 z.2 = valB 18446744073709551616 ((wg a).take z.1) * b ∧ ∀ j, z.1 + (wg b).length ≤ j → z.2.getD j 0 = 0)
    (m := fun z => (wg a).length - z.1) (0, List.replicate ((wg a).length + (wg b).length) 0) [some 0, some 1, some 2, some 3] rfl (by simp only [← nl_rep]; (simp (disch := (first | omega | (simp only [List.length_append, List.length_set, List.length_cons, List.length_nil, List.length_replicate, List.length_take, List.length_drop, List.length_map, List.length_range, true_and, and_true]; (try omega); done) | fail)) only [go_sem, Int.reduceEq, Int.reduceToNat, Nat.reduceAdd, Nat.reduceMul, Nat.reduceEqDiff, ↓reduceIte, true_and, and_true, and_self, List.drop_zero, List.take_length, Nat.le_refl, V.lit.injEq, Value.int.injEq, Value.bool.injEq]; try (first | omega | (simp; done) | (simp; omega)))) (by simp (disch := (first | omega | (simp only [List.length_append, List.length_set, List.length_cons, List.length_nil, List.length_replicate, List.length_take, List.length_drop, List.length_map, List.length_range, true_and, and_true]; (try omega); done) | fail)) only [go_sem, Int.reduceEq, Int.reduceToNat, Nat.reduceAdd, Nat.reduceMul, Nat.reduceEqDiff, ↓reduceIte, true_and, and_true, and_self, List.drop_zero, List.take_length, Nat.le_refl, V.lit.injEq, Value.int.injEq, Value.bool.injEq]; try (first | omega | (simp; done) | (simp; omega)))
    ⟨by simp, by simp, fun d hd => by rw [List.eq_of_mem_replicate hd]; decide, by simp [valB_rep, valB], fun j _ => by rw [List.getD_eq_getElem?_getD, List.getElem?_replicate]; split <;> rfl⟩ ?_
  rintro ⟨i, O⟩ ⟨hi, hO, hOl, hv, hz0⟩
  simp only at hi hO hOl hv hz0 ⊢
  have hnO := nl_len O
  by_cases h1 : i < (wg a).length
  · have hxa := getD_ltB (by decide) hal i
    have hga := nl_get (wg a) i
    have hti := valB_take' (B := 18446744073709551616) (wg a) i
    obtain ⟨x, hx⟩ : ∃ x, (wg a).getD i 0 = x := ⟨_, rfl⟩
    rw [hx] at hxa hga hti
    simp (maxSteps := 1000000) (disch := (first | omega | (simp only [List.length_append, List.length_set, List.length_cons, List.length_nil, List.length_replicate, List.length_take, List.length_drop, List.length_map, List.length_range, true_and, and_true]; (try omega); done) | fail)) only [go_sem, hga, Int.reduceEq, Int.reduceToNat, Nat.reduceAdd, Nat.reduceMul, Nat.reduceEqDiff, ↓reduceIte]
    refine LoopV_of (X := Nat × Nat × List Nat) (st := fun z => ([(2, .ref 0 0 0 0), (3, .ref 1 0 0 0), (4, .ref 2 0 0 0), (5, .sl 3 1 0 ((wg a).length + (wg b).length)), (23, .row 1 ((nl (wg a)).map (ie .u64))), (24, .lit (.int .i64 ((wg a).length : Int))), (25, .lit (.int .i64 (i : Int))),
          (6, .lit (.int .i64 (i : Int))), (7, .lit (.int .u64 (x : Int))), (8, .lit (.int .u64 (z.2.1 : Int))), (31, .row 1 ((nl (wg b)).map (ie .u64))), (32, .lit (.int .i64 ((wg b).length : Int))), (33, .lit (.int .i64 (z.1 : Int)))],
        [some (.cells [.row 1 ((nl (wg a)).map (ie .u64))]), some (.cells [.row 1 ((nl (wg b)).map (ie .u64))]), some (.cells [.lit (.slice none 0 0)]), some (.row 1 ((nl z.2.2).map (ie .u64)))]))
      (inv := fun z => z.1 ≤ (wg b).length ∧ z.2.1 < 18446744073709551616 ∧ z.2.2.length = (wg a).length + (wg b).length ∧ (∀ d ∈ z.2.2, d < 18446744073709551616) ∧ valB 18446744073709551616 z.2.2 + 18446744073709551616 ^ (i + z.1) * z.2.1 = valB 18446744073709551616 O + 18446744073709551616 ^ i * (x * valB 18446744073709551616 ((wg b).take z.1)) ∧ ∀ j, i + (wg b).length ≤ j → z.2.2.getD j 0 = 0)
      (m := fun z => (wg b).length - z.1) (0, 0, O) [some 0, some 1, some 2, some 3] rfl (by simp (disch := (first | omega | (simp only [List.length_append, List.length_set, List.length_cons, List.length_nil, List.length_replicate, List.length_take, List.length_drop, List.length_map, List.length_range, true_and, and_true]; (try omega); done) | fail)) only [go_sem, Int.reduceEq, Int.reduceToNat, Nat.reduceAdd, Nat.reduceMul, Nat.reduceEqDiff, ↓reduceIte, true_and, and_true, and_self, List.drop_zero, List.take_length, Nat.le_refl, V.lit.injEq, Value.int.injEq, Value.bool.injEq]; try (first | omega | (simp; done) | (simp; omega))) (by simp (disch := (first | omega | (simp only [List.length_append, List.length_set, List.length_cons, List.length_nil, List.length_replicate, List.length_take, List.length_drop, List.length_map, List.length_range, true_and, and_true]; (try omega); done) | fail)) only [go_sem, Int.reduceEq, Int.reduceToNat, Nat.reduceAdd, Nat.reduceMul, Nat.reduceEqDiff, ↓reduceIte, true_and, and_true, and_self, List.drop_zero, List.take_length, Nat.le_refl, V.lit.injEq, Value.int.injEq, Value.bool.injEq]; try (first | omega | (simp; done) | (simp; omega))) ⟨by simp, by simp, hO, hOl, by simp [valB], hz0⟩ ?_
    rintro ⟨k, c, U⟩ ⟨hk, hc, hU, hUl, hw, hzU⟩
    simp only at hk hc hU hUl hw hzU ⊢
    have hnU := nl_len U
    by_cases hkb : k < (wg b).length
    · have hxb := getD_ltB (by decide) hbl k
      have hxu := getD_ltB (by decide) hUl (i + k)
      have hgb := nl_get (wg b) k
      have hgu := nl_get U (i + k)
      have htb := valB_take' (B := 18446744073709551616) (wg b) k
      have hik : ((i : Int) + (k : Int)).toNat = i + k := by omega
      obtain ⟨y, hy⟩ : ∃ y, (wg b).getD k 0 = y := ⟨_, rfl⟩
      rw [hy] at hxb hgb htb
      obtain ⟨u, hu⟩ : ∃ u, U.getD (i + k) 0 = u := ⟨_, rfl⟩
      have hxy : x * y ≤ 18446744073709551615 * 18446744073709551615 := Nat.mul_le_mul (by omega) (by omega)
      have hst := mulD_step (B := 18446744073709551616) (j := i + k) (c := c) (y := x * y) (O := U) (by omega)
      rw [hu] at hst hxu hgu
      obtain ⟨hd1, hd2, hd3⟩ := mul_digit hxy hxu hc
      have hinv : valB 18446744073709551616 (U.set (i + k) ((u + c + x * y) % 18446744073709551616)) + 18446744073709551616 ^ (i + (k + 1)) * ((u + c + x * y) / 18446744073709551616) = valB 18446744073709551616 O + 18446744073709551616 ^ i * (x * valB 18446744073709551616 ((wg b).take (k + 1))) := by
        rw [htb, show i + (k + 1) = i + k + 1 by omega, hst]
        have e : 18446744073709551616 ^ i * (x * (valB 18446744073709551616 ((wg b).take k) + 18446744073709551616 ^ k * y)) = 18446744073709551616 ^ i * (x * valB 18446744073709551616 ((wg b).take k)) + 18446744073709551616 ^ (i + k) * (x * y) := by
          rw [Nat.mul_add, Nat.mul_add, Nat.pow_add]
          congr 1
          rw [Nat.mul_left_comm x, ← Nat.mul_assoc]
        rw [e]
        generalize 18446744073709551616 ^ (i + k) * c = A1 at *
        generalize 18446744073709551616 ^ (i + k) * (x * y) = A2 at *
        generalize 18446744073709551616 ^ i * (x * valB 18446744073709551616 ((wg b).take k)) = A3 at *
        omega
      have hset := nl_set U (i + k) ((u + c + x * y) % 18446744073709551616)
      have hlen2 : (U.set (i + k) ((u + c + x * y) % 18446744073709551616)).length = (wg a).length + (wg b).length := by rw [List.length_set, hU]
      have hall := setB (B := 18446744073709551616) (x := (u + c + x * y) % 18446744073709551616) (i := i + k) hUl (Nat.mod_lt _ (by decide))
      have hz2 : ∀ j, i + (wg b).length ≤ j → (U.set (i + k) ((u + c + x * y) % 18446744073709551616)).getD j 0 = 0 := fun j hj => by
        rw [List.getD_eq_getElem?_getD, List.getElem?_set_ne (by omega), ← List.getD_eq_getElem?_getD]
        exact hzU j hj
      have hm64 := mul64_fn (x := x) (y := y) hxa hxb
      generalize x * y = p at *
      generalize hsd : (u + c + p) % 18446744073709551616 = s at *
      generalize hcd : (u + c + p) / 18446744073709551616 = c' at *
      simp (maxSteps := 1000000) (disch := (first | omega | (simp only [List.length_append, List.length_set, List.length_cons, List.length_nil, List.length_replicate, List.length_take, List.length_drop, List.length_map, List.length_range, true_and, and_true]; (try omega); done) | fail)) only [go_sem, hgb, Int.reduceEq, Int.reduceToNat, Nat.reduceAdd, Nat.reduceMul, Nat.reduceEqDiff, ↓reduceIte]
      refine callV0 (hm64) rfl rfl ?_
      simp (maxSteps := 1000000) (disch := (first | omega | (simp only [List.length_append, List.length_set, List.length_cons, List.length_nil, List.length_replicate, List.length_take, List.length_drop, List.length_map, List.length_range, true_and, and_true]; (try omega); done) | fail)) only [go_sem, hgu, hik, Int.reduceEq, Int.reduceToNat, Nat.reduceAdd, Nat.reduceMul, Nat.reduceEqDiff, ↓reduceIte]
      refine call_add64 (c := 0) Try.func77 (by kernel_rfl) (by kernel_rfl) (by kernel_rfl) (by kernel_rfl) (by omega) ?_
      have hs1 : (p % 18446744073709551616 + u + 0) / 18446744073709551616 ≤ 1 := by omega
      generalize (p % 18446744073709551616 + u + 0) / 18446744073709551616 = c1 at *
      generalize (p % 18446744073709551616 + u + 0) % 18446744073709551616 = l1 at *
      have hq1 : ((p / 18446744073709551616 : Nat) : Int) + (c1 : Int) = ((p / 18446744073709551616 + c1 : Nat) : Int) := by omega
      simp (maxSteps := 1000000) (disch := (first | omega | (simp only [List.length_append, List.length_set, List.length_cons, List.length_nil, List.length_replicate, List.length_take, List.length_drop, List.length_map, List.length_range, true_and, and_true]; (try omega); done) | fail)) only [go_sem, hq1, Int.reduceEq, Int.reduceToNat, Nat.reduceAdd, Nat.reduceMul, Nat.reduceEqDiff, ↓reduceIte]
      refine call_add64 (c := 0) Try.func77 (by kernel_rfl) (by kernel_rfl) (by kernel_rfl) (by kernel_rfl) (by omega) ?_
      rw [hd1]
      generalize (l1 + c + 0) / 18446744073709551616 = c2 at *
      have hq2 : ((p / 18446744073709551616 + c1 : Nat) : Int) + (c2 : Int) = (c' : Int) := by omega
      simp (maxSteps := 1000000) (disch := (first | omega | (simp only [List.length_append, List.length_set, List.length_cons, List.length_nil, List.length_replicate, List.length_take, List.length_drop, List.length_map, List.length_range, true_and, and_true]; (try omega); done) | fail)) only [go_sem, hik, hq1, hq2, hset, Int.reduceEq, Int.reduceToNat, Nat.reduceAdd, Nat.reduceMul, Nat.reduceEqDiff, ↓reduceIte]
      refine nextW (k + 1, c', U.set (i + k) s) [some 0, some 1, some 2, some 3] ⟨by simp only; omega, hd3, hlen2, hall, hinv, hz2⟩ (by simp only; omega)
    · obtain rfl : k = (wg b).length := by omega
      have hfull : (wg b).take (wg b).length = wg b := List.take_of_length_le (Nat.le_refl _)
      rw [hfull, hbv] at hw
      have hset := nl_set U (i + (wg b).length) c
      have hlen2 : (U.set (i + (wg b).length) c).length = (wg a).length + (wg b).length := by rw [List.length_set, hU]
      have hall := setB (B := 18446744073709551616) (x := c) (i := i + (wg b).length) hUl hc
      have hz2 : ∀ j, i + 1 + (wg b).length ≤ j → (U.set (i + (wg b).length) c).getD j 0 = 0 := fun j hj => by
        rw [List.getD_eq_getElem?_getD, List.getElem?_set_ne (by omega), ← List.getD_eq_getElem?_getD]
        exact hzU j (by omega)
      have hvs := valB_set (B := 18446744073709551616) (l := U) (i := i + (wg b).length) (x := c) (by omega)
      rw [hzU _ (Nat.le_refl _), Nat.mul_zero, Nat.add_zero, hw, hv] at hvs
      have hik : ((i : Int) + ((wg b).length : Int)).toNat = i + (wg b).length := by omega
      have hik2 : ((i : Int) + ((nl (wg b)).length : Int)).toNat = i + (wg b).length := by omega
      simp (maxSteps := 1000000) (disch := (first | omega | (simp only [List.length_append, List.length_set, List.length_cons, List.length_nil, List.length_replicate, List.length_take, List.length_drop, List.length_map, List.length_range, true_and, and_true]; (try omega); done) | fail)) only [go_sem, hik, hik2, hset, Int.reduceEq, Int.reduceToNat, Nat.reduceAdd, Nat.reduceMul, Nat.reduceEqDiff, ↓reduceIte]
      refine nextW (i + 1, U.set (i + (wg b).length) c) [some 0, some 1, some 2, some 3] ⟨by simp only; omega, hlen2, hall, by simp only; rw [hvs, hti, Nat.add_mul, Nat.mul_assoc], hz2⟩ (by simp only; omega)
  · have hfull : (wg a).take i = wg a := List.take_of_length_le (by omega)
    rw [hfull, hav] at hv
    simp (maxSteps := 1000000) (disch := (first | omega | (simp only [List.length_append, List.length_set, List.length_cons, List.length_nil, List.length_replicate, List.length_take, List.length_drop, List.length_map, List.length_range, true_and, and_true]; (try omega); done) | fail)) only [go_sem, Int.reduceEq, Int.reduceToNat, Nat.reduceAdd, Nat.reduceMul, Nat.reduceEqDiff, ↓reduceIte]
    refine callW [] [3] (trimmed_fn (l := O) hOl (by omega)) ?_
    rw [hv]
    simp (maxSteps := 1000000) (disch := (first | omega | (simp only [List.length_append, List.length_set, List.length_cons, List.length_nil, List.length_replicate, List.length_take, List.length_drop, List.length_map, List.length_range, true_and, and_true]; (try omega); done) | fail)) only [go_sem, Int.reduceEq, Int.reduceToNat, Nat.reduceAdd, Nat.reduceMul, Nat.reduceEqDiff, ↓reduceIte]
    exact endW [] hQ
end Go.Proofs.Ytfemchdaoihogaa
