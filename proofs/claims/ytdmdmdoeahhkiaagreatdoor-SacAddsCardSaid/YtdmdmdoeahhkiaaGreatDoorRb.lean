import Derived.Test.YtdmdmdoeahhkiaaGreatDoorRa
import Derived.Test.YtdmdmdoeahhkiaaGreatDoorE6
namespace Go.Proofs.YtdmdmdoeahhkiaaGreatDoor
open Go.Eng Go.Vx
set_option linter.unusedSimpArgs false
set_option linter.unusedVariables false
set_option maxRecDepth 100000
def dg (n : Nat) : List Nat := dgB 10000 n
def DV (n : Nat) : V := .row 1 ((nl (dg n)).map (ie .i64))
attribute [go_sem] DV
theorem trim_fn {l : List Nat} (hl : ∀ d ∈ l, d < 10000) (hm : l.length ≤ 4000000) : Fn1 Tryz.prog 139 [.row 1 ((nl l).map (ie .i64))] [] (DV (valB 10000 l)) [] := by
  refine fn1N_of pl139 (by kernel_rfl) Tryz.call139 Tryz.func139 rfl (by kernel_rfl) rfl [.tmp 2] (by kernel_rfl) fun Q hQ => ?_
  have hnl := nl_len l
  refine runW ?_
  refine loopW (X := Nat) (st := fun n => ([(0, .row 1 ((nl l).map (ie .i64))), (3, .lit (.int .i64 (n : Int)))], []))
    (inv := fun n => n ≤ l.length ∧ ∀ i, n ≤ i → i < l.length → l.getD i 0 = 0) (m := fun n => n) l.length [] ⟨by omega, fun i h1 h2 => by omega⟩ ?_
  rintro n ⟨hn, h0⟩
  by_cases h : 0 < n
  · obtain ⟨k, rfl⟩ : ∃ k, n = k + 1 := ⟨n - 1, by omega⟩
    have hg := nl_get l k
    have hk : (((k + 1 : Nat) : Int) - 1).toNat = k := by omega
    by_cases hz : l.getD k 0 = 0
    · simp (maxSteps := 1000000) (disch := (first | omega | (simp only [lnA, List.length_map, List.length_range, true_and, and_true]; (try omega); done) | fail)) only [go_sem, hk, hg, hz, Int.reduceEq, Int.reduceToNat, Nat.reduceAdd, Nat.reduceMul, Nat.reduceEqDiff, ↓reduceIte]
      refine nextW k [] ⟨by omega, fun i h1 h2 => ?_⟩ (by omega)
      rcases Nat.eq_or_lt_of_le h1 with e | e
      · rw [← e]; exact hz
      · exact h0 i e h2
    · have ht : l.take _ = dg (valB 10000 l) := dgB_trim (B := 10000) (by decide) hl hn h0 (.inr (by rw [Nat.add_sub_cancel]; exact hz))
      simp (maxSteps := 1000000) (disch := (first | omega | (simp only [lnA, List.length_map, List.length_range, true_and, and_true]; (try omega); done) | fail)) only [go_sem, hk, hg, Int.reduceEq, Int.reduceToNat, Nat.reduceAdd, Nat.reduceMul, Nat.reduceEqDiff, ↓reduceIte]
      rw [nl_takeR, ht]
      exact endW [] hQ
  · obtain rfl : n = 0 := by omega
    have ht : l.take _ = dg (valB 10000 l) := dgB_trim (B := 10000) (by decide) hl hn h0 (.inl rfl)
    refine runW ?_
    rw [nl_takeR, ht]
    exact endW [] hQ
theorem small_fn {n : Nat} (hn : n < 9223372036854775808) : Fn1 Tryz.prog 27 [.lit (.int .i64 n)] [] (DV n) [] := by
  refine fn1N_of pl27 (by kernel_rfl) Tryz.call27 Tryz.func27 rfl (by kernel_rfl) rfl [.tmp 2] (by kernel_rfl) fun Q hQ => ?_
  refine runW ?_
  refine LoopV_of (X := List Nat × Nat) (st := fun x => ([(0, .lit (.int .i64 (x.2 : Int))), (3, .sl 0 1 0 x.1.length)], [some (.row 1 ((nl x.1).map (ie .i64)))]))
    (inv := fun x => x.1 ++ dg x.2 = dg n ∧ x.2 ≤ n ∧ x.1.length ≤ 20) (m := fun x => x.2) ([], n) [none] rfl (by simp only [nl, List.map_nil]; (simp (disch := (first | omega | (simp only [lnA, List.length_map, List.length_range, true_and, and_true]; (try omega); done) | fail)) only [go_sem, Int.reduceEq, Int.reduceToNat, Nat.reduceAdd, Nat.reduceMul, Nat.reduceEqDiff, ↓reduceIte, true_and, and_true, and_self, List.drop_zero, List.take_length, Nat.le_refl, V.lit.injEq, Value.int.injEq, Value.bool.injEq]; try (first | omega | (simp; done) | (simp; omega)))) (by simp (disch := (first | omega | (simp only [lnA, List.length_map, List.length_range, true_and, and_true]; (try omega); done) | fail)) only [go_sem, Int.reduceEq, Int.reduceToNat, Nat.reduceAdd, Nat.reduceMul, Nat.reduceEqDiff, ↓reduceIte, true_and, and_true, and_self, List.drop_zero, List.take_length, Nat.le_refl, V.lit.injEq, Value.int.injEq, Value.bool.injEq]; try (first | omega | (simp; done) | (simp; omega))) ⟨rfl, Nat.le_refl _, by simp⟩ ?_
  rintro ⟨L, m⟩ ⟨hL, hm, hl⟩
  simp only at hL hm hl ⊢
  have hnl := nl_len L
  by_cases h : 0 < m
  · have e := dgB_pos (B := 10000) (by decide) (show m ≠ 0 by omega)
    have e' : L ++ [m % 10000] ++ dg (m / 10000) = dg n := by rw [← hL]; unfold dg; rw [e]; simp
    have hmd : (m : Int) % 10000 = ((m % 10000 : Nat) : Int) := by omega
    have hdd : (m : Int) / 10000 = ((m / 10000 : Nat) : Int) := by omega
    have hls : L.length + 1 ≤ 20 := by
      have h1 := congrArg List.length hL
      have h2 : (dg n).length ≤ 5 := (dgB_len_le (B := 10000) (by decide)).2 (by omega)
      rw [List.length_append] at h1
      have h3 : 0 < (dg m).length := by unfold dg; rw [e]; simp
      omega
    have hs := nl_snoc L (m % 10000)
    simp (maxSteps := 1000000) (disch := (first | omega | (simp only [lnA, List.length_map, List.length_range, true_and, and_true]; (try omega); done) | fail)) only [go_sem, hmd, hdd, hs, Int.reduceEq, Int.reduceToNat, Nat.reduceAdd, Nat.reduceMul, Nat.reduceEqDiff, ↓reduceIte]
    refine nextW (L ++ [m % 10000], m / 10000) [some 2] ⟨e', by simp only; omega, by simp only [List.length_append, List.length_cons, List.length_nil]; omega⟩ (by simp only; omega)
  · obtain rfl : m = 0 := by omega
    have e : L = dg n := by rw [← hL]; unfold dg; rw [dgB_zero]; simp
    subst e
    refine runW ?_
    exact endW [] hQ
theorem ladd_fn {a b : Nat} (ha : (dg a).length ≤ 2000000) (hb : (dg b).length ≤ 2000000) : Fn1 Tryz.prog 128 [DV a, DV b] [] (DV (a + b)) [] := by
  refine fn1N_of pl128 (by kernel_rfl) Tryz.call128 Tryz.func128 rfl (by kernel_rfl) rfl [.tmp 4] (by kernel_rfl) fun Q hQ => ?_
  have hal : ∀ d ∈ dg a, d < 10000 := dgB_lt (B := 10000) (by decide) a
  have hbl : ∀ d ∈ dg b, d < 10000 := dgB_lt (B := 10000) (by decide) b
  have hav : valB 10000 (dg a) = a := dgB_val (by decide) a
  have hbv : valB 10000 (dg b) = b := dgB_val (by decide) b
  have hnA := nl_len (dg a)
  have hnB := nl_len (dg b)
  refine runW ?_
  refine LoopV_of (X := List Nat × Nat) (st := fun x => ([(0, DV a), (1, DV b), (5, .sl 0 1 0 x.1.length), (6, .lit (.int .i64 (x.2 : Int))), (7, .lit (.int .i64 (x.1.length : Int)))], [some (.row 1 ((nl x.1).map (ie .i64)))]))
    (inv := fun x => (∀ d ∈ x.1, d < 10000) ∧ x.2 ≤ 1 ∧ valB 10000 x.1 + 10000 ^ x.1.length * x.2 = valB 10000 ((dg a).take x.1.length) + valB 10000 ((dg b).take x.1.length) ∧ (x.1.length ≤ max (dg a).length (dg b).length ∨ (x.1.length = max (dg a).length (dg b).length + 1 ∧ x.2 = 0)))
    (m := fun x => max (dg a).length (dg b).length + 2 - x.1.length) ([], 0) [none] rfl (by simp only [nl, List.map_nil]; (simp (disch := (first | omega | (simp only [lnA, List.length_map, List.length_range, true_and, and_true]; (try omega); done) | fail)) only [go_sem, Int.reduceEq, Int.reduceToNat, Nat.reduceAdd, Nat.reduceMul, Nat.reduceEqDiff, ↓reduceIte, true_and, and_true, and_self, List.drop_zero, List.take_length, Nat.le_refl, V.lit.injEq, Value.int.injEq, Value.bool.injEq]; try (first | omega | (simp; done) | (simp; omega)))) (by simp (disch := (first | omega | (simp only [lnA, List.length_map, List.length_range, true_and, and_true]; (try omega); done) | fail)) only [go_sem, Int.reduceEq, Int.reduceToNat, Nat.reduceAdd, Nat.reduceMul, Nat.reduceEqDiff, ↓reduceIte, true_and, and_true, and_self, List.drop_zero, List.take_length, Nat.le_refl, V.lit.injEq, Value.int.injEq, Value.bool.injEq]; try (first | omega | (simp; done) | (simp; omega))) ⟨by simp, by simp, by simp [valB], by simp⟩ ?_
  rintro ⟨L, c⟩ ⟨hL, hc, hv, hlen⟩
  simp only at hL hc hv hlen ⊢
  have hnl := nl_len L
  have hga := nl_get (dg a) L.length
  have hgb := nl_get (dg b) L.length
  have hxa := getD_ltB (by decide) hal L.length
  have hxb := getD_ltB (by decide) hbl L.length
  have hst := add_step hv
  have hza : (dg a).length ≤ L.length → (dg a).getD L.length 0 = 0 := getD_out
  have hzb : (dg b).length ≤ L.length → (dg b).getD L.length 0 = 0 := getD_out
  have hta : (dg a).length ≤ L.length → (dg a).take L.length = dg a := List.take_of_length_le
  have htb : (dg b).length ≤ L.length → (dg b).take L.length = dg b := List.take_of_length_le
  generalize (dg a).getD L.length 0 = x at *
  generalize (dg b).getD L.length 0 = y at *
  have hs := nl_snoc L ((c + x + y) % 10000)
  by_cases h1 : L.length < (dg a).length
  · by_cases h2 : L.length < (dg b).length
    · have hmd : ((c : Int) + (x : Int) + (y : Int)) % 10000 = (((c + x + y) % 10000 : Nat) : Int) := by omega
      have hdd : ((c : Int) + (x : Int) + (y : Int)) / 10000 = (((c + x + y) / 10000 : Nat) : Int) := by omega
      simp (maxSteps := 1000000) (disch := (first | omega | (simp only [lnA, List.length_map, List.length_range, true_and, and_true]; (try omega); done) | fail)) only [go_sem, hga, hgb, hmd, hdd, hs, Int.reduceEq, Int.reduceToNat, Nat.reduceAdd, Nat.reduceMul, Nat.reduceEqDiff, ↓reduceIte]
      refine nextW (L ++ [(c + x + y) % 10000], (c + x + y) / 10000) [some 2] ⟨snocB hL (Nat.mod_lt _ (by decide)), by simp only; omega, by simp only [List.length_append, List.length_cons, List.length_nil]; exact hst, by simp only [List.length_append, List.length_cons, List.length_nil]; omega⟩ (by simp only [List.length_append, List.length_cons, List.length_nil]; omega)
    · obtain rfl : y = 0 := hzb (by omega)
      have hmd : ((c : Int) + (x : Int)) % 10000 = (((c + x) % 10000 : Nat) : Int) := by omega
      have hdd : ((c : Int) + (x : Int)) / 10000 = (((c + x) / 10000 : Nat) : Int) := by omega
      have hs := nl_snoc L ((c + x) % 10000)
      simp (maxSteps := 1000000) (disch := (first | omega | (simp only [lnA, List.length_map, List.length_range, true_and, and_true]; (try omega); done) | fail)) only [go_sem, hga, hgb, hmd, hdd, hs, Int.reduceEq, Int.reduceToNat, Nat.reduceAdd, Nat.reduceMul, Nat.reduceEqDiff, ↓reduceIte]
      refine nextW (L ++ [(c + x + 0) % 10000], (c + x + 0) / 10000) [some 2] ⟨snocB hL (Nat.mod_lt _ (by decide)), by simp only; omega, by simp only [List.length_append, List.length_cons, List.length_nil]; exact hst, by simp only [List.length_append, List.length_cons, List.length_nil]; omega⟩ (by simp only [List.length_append, List.length_cons, List.length_nil]; omega)
  · obtain rfl : x = 0 := hza (by omega)
    by_cases h2 : L.length < (dg b).length
    · have hmd : ((c : Int) + (y : Int)) % 10000 = (((c + y) % 10000 : Nat) : Int) := by omega
      have hdd : ((c : Int) + (y : Int)) / 10000 = (((c + y) / 10000 : Nat) : Int) := by omega
      have hs := nl_snoc L ((c + y) % 10000)
      simp (maxSteps := 1000000) (disch := (first | omega | (simp only [lnA, List.length_map, List.length_range, true_and, and_true]; (try omega); done) | fail)) only [go_sem, hga, hgb, hmd, hdd, hs, Int.reduceEq, Int.reduceToNat, Nat.reduceAdd, Nat.reduceMul, Nat.reduceEqDiff, ↓reduceIte]
      refine nextW (L ++ [(c + 0 + y) % 10000], (c + 0 + y) / 10000) [some 2] ⟨snocB hL (Nat.mod_lt _ (by decide)), by simp only; omega, by simp only [List.length_append, List.length_cons, List.length_nil]; exact hst, by simp only [List.length_append, List.length_cons, List.length_nil]; omega⟩ (by simp only [List.length_append, List.length_cons, List.length_nil]; omega)
    · obtain rfl : y = 0 := hzb (by omega)
      by_cases h3 : 0 < c
      · have hmd : (c : Int) % 10000 = ((c % 10000 : Nat) : Int) := by omega
        have hdd : (c : Int) / 10000 = ((c / 10000 : Nat) : Int) := by omega
        have hs := nl_snoc L (c % 10000)
        simp (maxSteps := 1000000) (disch := (first | omega | (simp only [lnA, List.length_map, List.length_range, true_and, and_true]; (try omega); done) | fail)) only [go_sem, hga, hgb, hmd, hdd, hs, Int.reduceEq, Int.reduceToNat, Nat.reduceAdd, Nat.reduceMul, Nat.reduceEqDiff, ↓reduceIte]
        refine nextW (L ++ [(c + 0 + 0) % 10000], (c + 0 + 0) / 10000) [some 2] ⟨snocB hL (Nat.mod_lt _ (by decide)), by simp only; omega, by simp only [List.length_append, List.length_cons, List.length_nil]; exact hst, by simp only [List.length_append, List.length_cons, List.length_nil]; omega⟩ (by simp only [List.length_append, List.length_cons, List.length_nil]; omega)
      · obtain rfl : c = 0 := by omega
        rw [hta (by omega), htb (by omega), hav, hbv, Nat.mul_zero, Nat.add_zero] at hv
        refine runW ?_
        refine callW [] [0] (trim_fn (l := L) hL (by omega)) ?_
        rw [hv]
        refine runW ?_
        exact endW [] hQ
theorem lcmp_fn {a b : Nat} (ha : (dg a).length ≤ 2000000) (hb : (dg b).length ≤ 2000000) : Fn1 Tryz.prog 130 [DV a, DV b] [] (.lit (.int .i64 (cmpI a b))) [] := by
  refine fn1N_of pl130 (by kernel_rfl) Tryz.call130 Tryz.func130 rfl (by kernel_rfl) rfl [.tmp 4] (by kernel_rfl) fun Q hQ => ?_
  have hal : ∀ d ∈ dg a, d < 10000 := dgB_lt (B := 10000) (by decide) a
  have hbl : ∀ d ∈ dg b, d < 10000 := dgB_lt (B := 10000) (by decide) b
  have hav : valB 10000 (dg a) = a := dgB_val (by decide) a
  have hbv : valB 10000 (dg b) = b := dgB_val (by decide) b
  have hnA := nl_len (dg a)
  have hnB := nl_len (dg b)
  unfold cmpI at hQ
  by_cases hl : (dg a).length = (dg b).length
  · refine runW ?_
    refine loopW (X := Nat) (st := fun k => ([(0, DV a), (1, DV b), (5, .lit (.int .i64 ((k : Int) - 1)))], []))
      (inv := fun k => k ≤ (dg a).length ∧ (dg a).drop k = (dg b).drop k) (m := fun k => k) (dg a).length [] ⟨by omega, by rw [List.drop_of_length_le (Nat.le_refl _), List.drop_of_length_le (by omega)]⟩ ?_
    rintro k ⟨hk, hd⟩
    by_cases h : 0 < k
    · obtain ⟨i, rfl⟩ : ∃ i, k = i + 1 := ⟨k - 1, by omega⟩
      have hga := nl_get (dg a) i
      have hgb := nl_get (dg b) i
      have hki : (((i + 1 : Nat) : Int) - 1).toNat = i := by omega
      by_cases h1 : (dg a).getD i 0 < (dg b).getD i 0
      · have hlt := valB_cmp (by decide) hal hbl hl (by omega) hd h1
        rw [hav, hbv] at hlt
        rw [if_pos hlt] at hQ
        simp (maxSteps := 1000000) (disch := (first | omega | (simp only [lnA, List.length_map, List.length_range, true_and, and_true]; (try omega); done) | fail)) only [go_sem, hki, hga, hgb, Int.reduceEq, Int.reduceToNat, Nat.reduceAdd, Nat.reduceMul, Nat.reduceEqDiff, ↓reduceIte]
        exact endW [] hQ
      · by_cases h2 : (dg b).getD i 0 < (dg a).getD i 0
        · have hlt := valB_cmp (by decide) hbl hal hl.symm (by omega) hd.symm h2
          rw [hav, hbv] at hlt
          rw [if_neg (by omega), if_pos hlt] at hQ
          simp (maxSteps := 1000000) (disch := (first | omega | (simp only [lnA, List.length_map, List.length_range, true_and, and_true]; (try omega); done) | fail)) only [go_sem, hki, hga, hgb, Int.reduceEq, Int.reduceToNat, Nat.reduceAdd, Nat.reduceMul, Nat.reduceEqDiff, ↓reduceIte]
          exact endW [] hQ
        · simp (maxSteps := 1000000) (disch := (first | omega | (simp only [lnA, List.length_map, List.length_range, true_and, and_true]; (try omega); done) | fail)) only [go_sem, hki, hga, hgb, Int.reduceEq, Int.reduceToNat, Nat.reduceAdd, Nat.reduceMul, Nat.reduceEqDiff, ↓reduceIte]
          refine nextW i [] ⟨by omega, ?_⟩ (by omega)
          rw [List.drop_eq_getElem_cons (show i < (dg a).length by omega), List.drop_eq_getElem_cons (show i < (dg b).length by omega), hd]
          congr 1
          simp only [List.getD_eq_getElem?_getD, List.getElem?_eq_getElem (show i < (dg a).length by omega), List.getElem?_eq_getElem (show i < (dg b).length by omega), Option.getD_some] at h1 h2
          omega
    · obtain rfl : k = 0 := by omega
      rw [List.drop_zero, List.drop_zero] at hd
      rw [hd] at hav
      rw [if_neg (by omega), if_neg (by omega)] at hQ
      refine runW ?_
      exact endW [] hQ
  · by_cases h : (dg a).length < (dg b).length
    · have hlt := dgB_len_lt (B := 10000) (by decide) h
      rw [if_pos hlt] at hQ
      refine runW ?_
      exact endW [] hQ
    · have hlt := dgB_len_lt (B := 10000) (by decide) (show (dg b).length < (dg a).length by omega)
      rw [if_neg (by omega), if_pos hlt] at hQ
      refine runW ?_
      exact endW [] hQ
theorem lsub_fn {a b : Nat} (hba : b ≤ a) (ha : (dg a).length ≤ 2000000) : Fn1 Tryz.prog 165 [DV a, DV b] [] (DV (a - b)) [] := by
  refine fn1N_of pl165 (by kernel_rfl) Tryz.call165 Tryz.func165 rfl (by kernel_rfl) rfl [.tmp 4] (by kernel_rfl) fun Q hQ => ?_
  have hal : ∀ d ∈ dg a, d < 10000 := dgB_lt (B := 10000) (by decide) a
  have hbl : ∀ d ∈ dg b, d < 10000 := dgB_lt (B := 10000) (by decide) b
  have hav : valB 10000 (dg a) = a := dgB_val (by decide) a
  have hbv : valB 10000 (dg b) = b := dgB_val (by decide) b
  have hlen : (dg b).length ≤ (dg a).length := dgB_len_mono (by decide) hba
  have hnA := nl_len (dg a)
  have hnB := nl_len (dg b)
  refine runW ?_
  refine LoopV_of (X := List Nat × Nat) (st := fun x => ([(0, DV a), (1, DV b), (5, .sl 0 1 0 x.1.length), (6, .lit (.int .i64 (x.2 : Int))), (7, .lit (.int .i64 (x.1.length : Int)))], [some (.row 1 ((nl x.1).map (ie .i64)))]))
    (inv := fun x => (∀ d ∈ x.1, d < 10000) ∧ x.2 ≤ 1 ∧ valB 10000 ((dg a).take x.1.length) + 10000 ^ x.1.length * x.2 = valB 10000 x.1 + valB 10000 ((dg b).take x.1.length) ∧ x.1.length ≤ (dg a).length)
    (m := fun x => (dg a).length - x.1.length) ([], 0) [none] rfl (by simp only [nl, List.map_nil]; (simp (disch := (first | omega | (simp only [lnA, List.length_map, List.length_range, true_and, and_true]; (try omega); done) | fail)) only [go_sem, Int.reduceEq, Int.reduceToNat, Nat.reduceAdd, Nat.reduceMul, Nat.reduceEqDiff, ↓reduceIte, true_and, and_true, and_self, List.drop_zero, List.take_length, Nat.le_refl, V.lit.injEq, Value.int.injEq, Value.bool.injEq]; try (first | omega | (simp; done) | (simp; omega)))) (by simp (disch := (first | omega | (simp only [lnA, List.length_map, List.length_range, true_and, and_true]; (try omega); done) | fail)) only [go_sem, Int.reduceEq, Int.reduceToNat, Nat.reduceAdd, Nat.reduceMul, Nat.reduceEqDiff, ↓reduceIte, true_and, and_true, and_self, List.drop_zero, List.take_length, Nat.le_refl, V.lit.injEq, Value.int.injEq, Value.bool.injEq]; try (first | omega | (simp; done) | (simp; omega))) ⟨by simp, by simp, by simp [valB], by simp⟩ ?_
  rintro ⟨L, c⟩ ⟨hL, hc, hv, hll⟩
  simp only at hL hc hv hll ⊢
  have hnl := nl_len L
  by_cases h1 : L.length < (dg a).length
  · have hga := nl_get (dg a) L.length
    have hgb := nl_get (dg b) L.length
    have hxa := getD_ltB (by decide) hal L.length
    have hxb := getD_ltB (by decide) hbl L.length
    have hzb : (dg b).length ≤ L.length → (dg b).getD L.length 0 = 0 := getD_out
    have hst := fun z c' h => sub_step (x := z) (c' := c') hv h
    generalize (dg a).getD L.length 0 = x at *
    generalize (dg b).getD L.length 0 = y at *
    by_cases h2 : L.length < (dg b).length
    · by_cases hneg : x < c + y
      · have e : (x : Int) - (c : Int) - (y : Int) + 10000 = ((x + 10000 - c - y : Nat) : Int) := by omega
        have hs := nl_snoc L (x + 10000 - c - y)
        have h := hst (x + 10000 - c - y) 1 (by omega)
        simp (maxSteps := 1000000) (disch := (first | omega | (simp only [lnA, List.length_map, List.length_range, true_and, and_true]; (try omega); done) | fail)) only [go_sem, hga, hgb, e, hs, Int.reduceEq, Int.reduceToNat, Nat.reduceAdd, Nat.reduceMul, Nat.reduceEqDiff, ↓reduceIte]
        refine nextW (L ++ [x + 10000 - c - y], 1) [some 2] ⟨snocB hL (by omega), by simp only; omega, by simp only [List.length_append, List.length_cons, List.length_nil]; exact h, by simp only [List.length_append, List.length_cons, List.length_nil]; omega⟩ (by simp only [List.length_append, List.length_cons, List.length_nil]; omega)
      · have e : (x : Int) - (c : Int) - (y : Int) = ((x - c - y : Nat) : Int) := by omega
        have hs := nl_snoc L (x - c - y)
        have h := hst (x - c - y) 0 (by omega)
        simp (maxSteps := 1000000) (disch := (first | omega | (simp only [lnA, List.length_map, List.length_range, true_and, and_true]; (try omega); done) | fail)) only [go_sem, hga, hgb, e, hs, Int.reduceEq, Int.reduceToNat, Nat.reduceAdd, Nat.reduceMul, Nat.reduceEqDiff, ↓reduceIte]
        refine nextW (L ++ [x - c - y], 0) [some 2] ⟨snocB hL (by omega), by simp only; omega, by simp only [List.length_append, List.length_cons, List.length_nil]; exact h, by simp only [List.length_append, List.length_cons, List.length_nil]; omega⟩ (by simp only [List.length_append, List.length_cons, List.length_nil]; omega)
    · obtain rfl : y = 0 := hzb (by omega)
      by_cases hneg : x < c
      · have e : (x : Int) - (c : Int) + 10000 = ((x + 10000 - c : Nat) : Int) := by omega
        have hs := nl_snoc L (x + 10000 - c)
        have h := hst (x + 10000 - c) 1 (by omega)
        simp (maxSteps := 1000000) (disch := (first | omega | (simp only [lnA, List.length_map, List.length_range, true_and, and_true]; (try omega); done) | fail)) only [go_sem, hga, hgb, e, hs, Int.reduceEq, Int.reduceToNat, Nat.reduceAdd, Nat.reduceMul, Nat.reduceEqDiff, ↓reduceIte]
        refine nextW (L ++ [x + 10000 - c], 1) [some 2] ⟨snocB hL (by omega), by simp only; omega, by simp only [List.length_append, List.length_cons, List.length_nil]; exact h, by simp only [List.length_append, List.length_cons, List.length_nil]; omega⟩ (by simp only [List.length_append, List.length_cons, List.length_nil]; omega)
      · have e : (x : Int) - (c : Int) = ((x - c : Nat) : Int) := by omega
        have hs := nl_snoc L (x - c)
        have h := hst (x - c) 0 (by omega)
        simp (maxSteps := 1000000) (disch := (first | omega | (simp only [lnA, List.length_map, List.length_range, true_and, and_true]; (try omega); done) | fail)) only [go_sem, hga, hgb, e, hs, Int.reduceEq, Int.reduceToNat, Nat.reduceAdd, Nat.reduceMul, Nat.reduceEqDiff, ↓reduceIte]
        refine nextW (L ++ [x - c], 0) [some 2] ⟨snocB hL (by omega), by simp only; omega, by simp only [List.length_append, List.length_cons, List.length_nil]; exact h, by simp only [List.length_append, List.length_cons, List.length_nil]; omega⟩ (by simp only [List.length_append, List.length_cons, List.length_nil]; omega)
  · have e1 : (dg a).take L.length = dg a := List.take_of_length_le (by omega)
    have e2 : (dg b).take L.length = dg b := List.take_of_length_le (by omega)
    rw [e1, e2, hav, hbv] at hv
    have hvl := valB_lt hL
    have hc0 : c = 0 := by
      rcases Nat.eq_zero_or_pos c with h | h
      · exact h
      · have := Nat.mul_le_mul_left (10000 ^ L.length) h
        omega
    have hval : valB 10000 L = a - b := by rw [hc0] at hv; omega
    refine runW ?_
    refine callW [] [0] (trim_fn (l := L) hL (by omega)) ?_
    rw [hval]
    refine runW ?_
    exact endW [] hQ
theorem lmul_fn {a b : Nat} (ha : (dg a).length ≤ 1000000) (hb : (dg b).length ≤ 1000000) : Fn1 Tryz.prog 85 [DV a, DV b] [] (DV (a * b)) [] := by
  refine fn1N_of pl85 (by kernel_rfl) Tryz.call85 Tryz.func85 rfl (by kernel_rfl) rfl [.tmp 4] (by kernel_rfl) fun Q hQ => ?_
  have hal : ∀ d ∈ dg a, d < 10000 := dgB_lt (B := 10000) (by decide) a
  have hbl : ∀ d ∈ dg b, d < 10000 := dgB_lt (B := 10000) (by decide) b
  have hav : valB 10000 (dg a) = a := dgB_val (by decide) a
  have hbv : valB 10000 (dg b) = b := dgB_val (by decide) b
  have hbp : b < 10000 ^ (dg b).length := dgB_lt_pow (by decide) b
  have hnA := nl_len (dg a)
  have hnB := nl_len (dg b)
  refine runW ?_
  refine LoopV_of (X := Nat × List Nat) (st := fun x => ([(0, DV a), (1, DV b), (5, .sl 0 1 0 ((dg a).length + (dg b).length + 1)), (6, .lit (.int .i64 (x.1 : Int)))], [some (.row 1 ((nl x.2).map (ie .i64)))]))
    (inv := fun x => x.1 ≤ (dg a).length ∧ x.2.length = (dg a).length + (dg b).length + 1 ∧ (∀ d ∈ x.2, d < 10000) ∧ valB 10000 x.2 = valB 10000 ((dg a).take x.1) * b)
    (m := fun x => (dg a).length - x.1) (0, List.replicate ((dg a).length + (dg b).length + 1) 0) [some 0] rfl (by simp only [← nl_rep]; (simp (disch := (first | omega | (simp only [lnA, List.length_map, List.length_range, true_and, and_true]; (try omega); done) | fail)) only [go_sem, Int.reduceEq, Int.reduceToNat, Nat.reduceAdd, Nat.reduceMul, Nat.reduceEqDiff, ↓reduceIte, true_and, and_true, and_self, List.drop_zero, List.take_length, Nat.le_refl, V.lit.injEq, Value.int.injEq, Value.bool.injEq]; try (first | omega | (simp; done) | (simp; omega)))) (by simp (disch := (first | omega | (simp only [lnA, List.length_map, List.length_range, true_and, and_true]; (try omega); done) | fail)) only [go_sem, Int.reduceEq, Int.reduceToNat, Nat.reduceAdd, Nat.reduceMul, Nat.reduceEqDiff, ↓reduceIte, true_and, and_true, and_self, List.drop_zero, List.take_length, Nat.le_refl, V.lit.injEq, Value.int.injEq, Value.bool.injEq]; try (first | omega | (simp; done) | (simp; omega))) ⟨by simp, by simp, fun d hd => by rw [List.eq_of_mem_replicate hd]; decide, by simp [valB_rep, valB]⟩ ?_
  rintro ⟨i, O⟩ ⟨hi, hO, hOl, hv⟩
  simp only at hi hO hOl hv ⊢
  have hnO := nl_len O
  by_cases h1 : i < (dg a).length
  · have hxa := getD_ltB (by decide) hal i
    have hga := nl_get (dg a) i
    have hti := valB_take' (B := 10000) (dg a) i
    obtain ⟨x, hx⟩ : ∃ x, (dg a).getD i 0 = x := ⟨_, rfl⟩
    rw [hx] at hxa hga hti
    refine runW ?_
    refine loopW (X := Nat × Nat × List Nat) (st := fun z => ([(0, DV a), (1, DV b), (5, .sl 0 1 0 ((dg a).length + (dg b).length + 1)), (6, .lit (.int .i64 (i : Int))), (7, .lit (.int .i64 (z.2.1 : Int))), (8, .lit (.int .i64 (z.1 : Int)))], [some (.row 1 ((nl z.2.2).map (ie .i64)))]))
      (inv := fun z => z.1 ≤ (dg b).length + 1 ∧ z.2.1 < 10000 ∧ z.2.2.length = (dg a).length + (dg b).length + 1 ∧ (∀ d ∈ z.2.2, d < 10000) ∧ valB 10000 z.2.2 + 10000 ^ (i + z.1) * z.2.1 = valB 10000 O + 10000 ^ i * (x * valB 10000 ((dg b).take z.1)) ∧ ((dg b).length < z.1 → z.2.1 = 0))
      (m := fun z => (dg b).length + 2 - z.1) (0, 0, O) [some 0] ⟨by simp, by simp, hO, hOl, by simp [valB], by simp⟩ ?_
    rintro ⟨k, c, U⟩ ⟨hk, hc, hU, hUl, hw, hend⟩
    simp only at hk hc hU hUl hw hend ⊢
    have hnU := nl_len U
    have hxb := getD_ltB (by decide) hbl k
    have hxu := getD_ltB (by decide) hUl (i + k)
    have hgb := nl_get (dg b) k
    have hgu := nl_get U (i + k)
    have hzb : (dg b).length ≤ k → (dg b).getD k 0 = 0 := getD_out
    have htb := valB_take' (B := 10000) (dg b) k
    have hik : ((i : Int) + (k : Int)).toNat = i + k := by omega
    obtain ⟨y, hy⟩ : ∃ y, (dg b).getD k 0 = y := ⟨_, rfl⟩
    rw [hy] at hxb hgb hzb htb
    obtain ⟨u, hu⟩ : ∃ u, U.getD (i + k) 0 = u := ⟨_, rfl⟩
    have hxy : x * y ≤ 9999 * 9999 := Nat.mul_le_mul (by omega) (by omega)
    have hxyc : (x : Int) * (y : Int) = ((x * y : Nat) : Int) := by simp
    by_cases hgo : k < (dg b).length ∨ 0 < c
    · have hk2 : k ≤ (dg b).length := by
        rcases hgo with h | h
        · omega
        · refine Classical.byContradiction fun hn => ?_
          have := hend (by omega)
          omega
      have hst := mulD_step (B := 10000) (j := i + k) (c := c) (y := x * y) (O := U) (by omega)
      rw [hu] at hst hxu hgu
      have hinv : valB 10000 (U.set (i + k) ((u + c + x * y) % 10000)) + 10000 ^ (i + (k + 1)) * ((u + c + x * y) / 10000) = valB 10000 O + 10000 ^ i * (x * valB 10000 ((dg b).take (k + 1))) := by
        rw [htb, show i + (k + 1) = i + k + 1 by omega, hst]
        have e : 10000 ^ i * (x * (valB 10000 ((dg b).take k) + 10000 ^ k * y)) = 10000 ^ i * (x * valB 10000 ((dg b).take k)) + 10000 ^ (i + k) * (x * y) := by
          rw [Nat.mul_add, Nat.mul_add, Nat.pow_add]
          congr 1
          rw [Nat.mul_left_comm x, ← Nat.mul_assoc]
        rw [e]
        omega
      have hnx : (dg b).length < k + 1 → (u + c + x * y) / 10000 = 0 := fun hlt => by
        obtain rfl : k = (dg b).length := by omega
        have hfull : (dg b).take ((dg b).length + 1) = dg b := List.take_of_length_le (by omega)
        rw [hfull, hbv] at hinv
        refine mulD_end (O := []) (B := 10000) (i := i) (n := (dg b).length) (V := b) (la := dg a) (T := valB 10000 (U.set (i + (dg b).length) ((u + c + x * y) % 10000))) (by decide) hal hbp ?_
        rw [show i + (dg b).length + 1 = i + ((dg b).length + 1) by omega, hinv, hv, hti, Nat.add_mul, Nat.mul_assoc]
      have hc2 : (u + c + x * y) / 10000 < 10000 := by omega
      have hset := nl_set U (i + k) ((u + c + x * y) % 10000)
      have hlen2 : (U.set (i + k) ((u + c + x * y) % 10000)).length = (dg a).length + (dg b).length + 1 := by rw [List.length_set, hU]
      have hall := setB (B := 10000) (x := (u + c + x * y) % 10000) (i := i + k) hUl (Nat.mod_lt _ (by decide))
      by_cases hkb : k < (dg b).length
      · have hmd : ((u : Int) + (c : Int) + ((x * y : Nat) : Int)) % 10000 = (((u + c + x * y) % 10000 : Nat) : Int) := by omega
        have hdd : ((u : Int) + (c : Int) + ((x * y : Nat) : Int)) / 10000 = (((u + c + x * y) / 10000 : Nat) : Int) := by omega
        generalize x * y = p at *
        simp (maxSteps := 1000000) (disch := (first | omega | (simp only [lnA, List.length_map, List.length_range, true_and, and_true]; (try omega); done) | fail)) only [go_sem, hga, hgb, hgu, hik, hxyc, hmd, hdd, hset, Int.reduceEq, Int.reduceToNat, Nat.reduceAdd, Nat.reduceMul, Nat.reduceEqDiff, ↓reduceIte]
        refine nextW (k + 1, (u + c + p) / 10000, U.set (i + k) ((u + c + p) % 10000)) [some 0] ⟨by simp only; omega, hc2, hlen2, hall, hinv, hnx⟩ (by simp only; omega)
      · obtain rfl : y = 0 := hzb (by omega)
        rw [Nat.mul_zero, Nat.add_zero] at *
        have hmd : ((u : Int) + (c : Int)) % 10000 = (((u + c) % 10000 : Nat) : Int) := by omega
        have hdd : ((u : Int) + (c : Int)) / 10000 = (((u + c) / 10000 : Nat) : Int) := by omega
        have hc0 : 0 < c := by omega
        simp (maxSteps := 1000000) (disch := (first | omega | (simp only [lnA, List.length_map, List.length_range, true_and, and_true]; (try omega); done) | fail)) only [go_sem, hgu, hik, hmd, hdd, hset, Int.reduceEq, Int.reduceToNat, Nat.reduceAdd, Nat.reduceMul, Nat.reduceEqDiff, ↓reduceIte]
        refine nextW (k + 1, (u + c) / 10000, U.set (i + k) ((u + c) % 10000)) [some 0] ⟨by simp only; omega, hc2, hlen2, hall, hinv, hnx⟩ (by simp only; omega)
    · obtain rfl : c = 0 := by omega
      have hfull : (dg b).take k = dg b := List.take_of_length_le (by omega)
      rw [hfull, hbv, Nat.mul_zero, Nat.add_zero, hv] at hw
      refine runW ?_
      refine nextW (i + 1, U) [some 0] ⟨by simp only; omega, hU, hUl, by rw [hw, hti, Nat.add_mul, Nat.mul_assoc]⟩ (by simp only; omega)
  · have hfull : (dg a).take i = dg a := List.take_of_length_le (by omega)
    rw [hfull, hav] at hv
    refine runW ?_
    refine callW [] [0] (trim_fn (l := O) hOl (by omega)) ?_
    rw [hv]
    refine runW ?_
    exact endW [] hQ
end Go.Proofs.YtdmdmdoeahhkiaaGreatDoor
