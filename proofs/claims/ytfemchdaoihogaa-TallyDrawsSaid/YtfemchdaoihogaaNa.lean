import Derived.Test.YtfemchdaoihogaaRa
import Derived.Test.YtfemchdaoihogaaE6
import Derived.Test.YtfemchdaoihogaaVt
/-! Package nat: of words, compared, added. -/
namespace Go.Proofs.Ytfemchdaoihogaa
open Go.Eng Go.Vx
set_option linter.unusedSimpArgs false
set_option linter.unusedVariables false
set_option maxRecDepth 100000
/-- A number's words. -/
def wg (n : Nat) : List Nat := dgB 18446744073709551616 n
def NV (n : Nat) : V := .agg [.row 1 ((nl (wg n)).map (ie .u64))]
attribute [go_sem] NV
theorem wg_lt (n : Nat) : ∀ d ∈ wg n, d < 18446744073709551616 := dgB_lt (B := 18446744073709551616) (by decide) n
theorem wg_val (n : Nat) : valB 18446744073709551616 (wg n) = n := dgB_val (by decide) n
theorem wg_zero : wg 0 = [] := dgB_zero _
theorem wg_nil {n : Nat} : wg n = [] ↔ n = 0 := dgB_nil (by decide)
theorem wg_len {n k : Nat} (h : n < 18446744073709551616 ^ k) : (wg n).length ≤ k := (dgB_len_le (by decide)).2 h
theorem wg_mono {a b : Nat} (h : a ≤ b) : (wg a).length ≤ (wg b).length := dgB_len_mono (by decide) h
theorem wg_one {n : Nat} (h : n < 18446744073709551616) : (wg n).length ≤ 1 := wg_len (by simpa using h)
theorem trimmed_fn {l : List Nat} (hl : ∀ d ∈ l, d < 18446744073709551616) (hm : l.length ≤ 4000000) : Fn1 Try.prog 54 [.row 1 ((nl l).map (ie .u64))] [] (NV (valB 18446744073709551616 l)) [] := by
  refine fn1_of pl54 (by kernel_rfl) Try.call54 Try.func54 rfl (by kernel_rfl) rfl [.cell 2 39] (by kernel_rfl) fun Q hQ => ?_
  have hnl := nl_len l
  simp (maxSteps := 1000000) (disch := (first | omega | (simp only [List.length_append, List.length_set, List.length_cons, List.length_nil, List.length_replicate, List.length_take, List.length_drop, List.length_map, List.length_range, true_and, and_true]; (try omega); done) | fail)) only [go_sem, Int.reduceEq, Int.reduceToNat, Nat.reduceAdd, Nat.reduceMul, Nat.reduceEqDiff, ↓reduceIte]
  refine LoopV_of (X := Nat) (st := fun n => ([(0, .row 1 ((nl l).map (ie .u64))), (2, .ref 0 0 0 0), (3, .lit (.int .i64 (n : Int)))], [some (.cells [.row 1 []])]))
    (inv := fun n => n ≤ l.length ∧ ∀ i, n ≤ i → i < l.length → l.getD i 0 = 0) (m := fun n => n) l.length [some 0] rfl (by simp (disch := (first | omega | (simp only [List.length_append, List.length_set, List.length_cons, List.length_nil, List.length_replicate, List.length_take, List.length_drop, List.length_map, List.length_range, true_and, and_true]; (try omega); done) | fail)) only [go_sem, Int.reduceEq, Int.reduceToNat, Nat.reduceAdd, Nat.reduceMul, Nat.reduceEqDiff, ↓reduceIte, true_and, and_true, and_self, List.drop_zero, List.take_length, Nat.le_refl, V.lit.injEq, Value.int.injEq, Value.bool.injEq]; try (first | omega | (simp; done) | (simp; omega))) (by simp (disch := (first | omega | (simp only [List.length_append, List.length_set, List.length_cons, List.length_nil, List.length_replicate, List.length_take, List.length_drop, List.length_map, List.length_range, true_and, and_true]; (try omega); done) | fail)) only [go_sem, Int.reduceEq, Int.reduceToNat, Nat.reduceAdd, Nat.reduceMul, Nat.reduceEqDiff, ↓reduceIte, true_and, and_true, and_self, List.drop_zero, List.take_length, Nat.le_refl, V.lit.injEq, Value.int.injEq, Value.bool.injEq]; try (first | omega | (simp; done) | (simp; omega))) ⟨by omega, fun i h1 h2 => by omega⟩ ?_
  rintro n ⟨hn, h0⟩
  by_cases h : 0 < n
  · obtain ⟨k, rfl⟩ : ∃ k, n = k + 1 := ⟨n - 1, by omega⟩
    have hg := nl_get l k
    have hk : (((k + 1 : Nat) : Int) - 1).toNat = k := by omega
    by_cases hz : l.getD k 0 = 0
    · simp (maxSteps := 1000000) (disch := (first | omega | (simp only [List.length_append, List.length_set, List.length_cons, List.length_nil, List.length_replicate, List.length_take, List.length_drop, List.length_map, List.length_range, true_and, and_true]; (try omega); done) | fail)) only [go_sem, hk, hg, hz, Int.reduceEq, Int.reduceToNat, Nat.reduceAdd, Nat.reduceMul, Nat.reduceEqDiff, ↓reduceIte]
      refine nextW k [some 0] ⟨by omega, fun i h1 h2 => ?_⟩ (by omega)
      rcases Nat.eq_or_lt_of_le h1 with e | e
      · rw [← e]; exact hz
      · exact h0 i e h2
    · have ht : l.take _ = wg (valB 18446744073709551616 l) := dgB_trim (B := 18446744073709551616) (by decide) hl hn h0 (.inr (by rw [Nat.add_sub_cancel]; exact hz))
      simp (maxSteps := 1000000) (disch := (first | omega | (simp only [List.length_append, List.length_set, List.length_cons, List.length_nil, List.length_replicate, List.length_take, List.length_drop, List.length_map, List.length_range, true_and, and_true]; (try omega); done) | fail)) only [go_sem, hk, hg, Int.reduceEq, Int.reduceToNat, Nat.reduceAdd, Nat.reduceMul, Nat.reduceEqDiff, ↓reduceIte]
      rw [nl_takeR, ht]
      exact endW [] hQ
  · obtain rfl : n = 0 := by omega
    have ht : l.take _ = wg (valB 18446744073709551616 l) := dgB_trim (B := 18446744073709551616) (by decide) hl hn h0 (.inl rfl)
    simp (maxSteps := 1000000) (disch := (first | omega | (simp only [List.length_append, List.length_set, List.length_cons, List.length_nil, List.length_replicate, List.length_take, List.length_drop, List.length_map, List.length_range, true_and, and_true]; (try omega); done) | fail)) only [go_sem, Int.reduceEq, Int.reduceToNat, Nat.reduceAdd, Nat.reduceMul, Nat.reduceEqDiff, ↓reduceIte]
    rw [nl_takeR, ht]
    exact endW [] hQ
theorem cloneN_fn {B : List Nat} (hB : B.length ≤ 4000000) : Fn1 Try.prog 55 [.row 1 ((nl B).map (ie .u64))] [] (.row 1 ((nl B).map (ie .u64))) [] := by
  refine fn1_of pl55 (by kernel_rfl) Try.call55 Try.func55 rfl (by kernel_rfl) rfl [.tmp 2] (by kernel_rfl) fun Q hQ => ?_
  have hnl := nl_len B
  by_cases h : B = []
  · subst h
    simp (maxSteps := 1000000) (disch := (first | omega | (simp only [List.length_append, List.length_set, List.length_cons, List.length_nil, List.length_replicate, List.length_take, List.length_drop, List.length_map, List.length_range, true_and, and_true]; (try omega); done) | fail)) only [go_sem, List.isEmpty_nil, Int.reduceEq, Int.reduceToNat, Nat.reduceAdd, Nat.reduceMul, Nat.reduceEqDiff, ↓reduceIte]
    refine nilB_both ?_ ?_
    · simp (maxSteps := 1000000) (disch := (first | omega | (simp only [List.length_append, List.length_set, List.length_cons, List.length_nil, List.length_replicate, List.length_take, List.length_drop, List.length_map, List.length_range, true_and, and_true]; (try omega); done) | fail)) only [go_sem, Int.reduceEq, Int.reduceToNat, Nat.reduceAdd, Nat.reduceMul, Nat.reduceEqDiff, ↓reduceIte]
      exact endW [] hQ
    · simp (maxSteps := 1000000) (disch := (first | omega | (simp only [List.length_append, List.length_set, List.length_cons, List.length_nil, List.length_replicate, List.length_take, List.length_drop, List.length_map, List.length_range, true_and, and_true]; (try omega); done) | fail)) only [go_sem, Int.reduceEq, Int.reduceToNat, Nat.reduceAdd, Nat.reduceMul, Nat.reduceEqDiff, ↓reduceIte]
      exact endW [] hQ
  · have he : ((nl B).map (ie .u64)).isEmpty = false := by simp [h, nl]
    simp (maxSteps := 1000000) (disch := (first | omega | (simp only [List.length_append, List.length_set, List.length_cons, List.length_nil, List.length_replicate, List.length_take, List.length_drop, List.length_map, List.length_range, true_and, and_true]; (try omega); done) | fail)) only [go_sem, he, Int.reduceEq, Int.reduceToNat, Nat.reduceAdd, Nat.reduceMul, Nat.reduceEqDiff, ↓reduceIte]
    exact endW [] hQ
theorem of_fn {l : List Nat} (hl : ∀ d ∈ l, d < 18446744073709551616) (hm : l.length ≤ 4000000) : Fn1 Try.prog 15 [.row 1 ((nl l).map (ie .u64))] [] (NV (valB 18446744073709551616 l)) [] := by
  refine fn1_of pl15 (by kernel_rfl) Try.call15 Try.func15 rfl (by kernel_rfl) rfl [.cell 2 39] (by kernel_rfl) fun Q hQ => ?_
  simp (maxSteps := 1000000) (disch := (first | omega | (simp only [List.length_append, List.length_set, List.length_cons, List.length_nil, List.length_replicate, List.length_take, List.length_drop, List.length_map, List.length_range, true_and, and_true]; (try omega); done) | fail)) only [go_sem, Int.reduceEq, Int.reduceToNat, Nat.reduceAdd, Nat.reduceMul, Nat.reduceEqDiff, ↓reduceIte]
  refine callV0 (cloneN_fn (B := l) hm) rfl rfl ?_
  simp (maxSteps := 1000000) (disch := (first | omega | (simp only [List.length_append, List.length_set, List.length_cons, List.length_nil, List.length_replicate, List.length_take, List.length_drop, List.length_map, List.length_range, true_and, and_true]; (try omega); done) | fail)) only [go_sem, Int.reduceEq, Int.reduceToNat, Nat.reduceAdd, Nat.reduceMul, Nat.reduceEqDiff, ↓reduceIte]
  refine callV0 (trimmed_fn hl hm) rfl rfl ?_
  simp (maxSteps := 1000000) (disch := (first | omega | (simp only [List.length_append, List.length_set, List.length_cons, List.length_nil, List.length_replicate, List.length_take, List.length_drop, List.length_map, List.length_range, true_and, and_true]; (try omega); done) | fail)) only [go_sem, Int.reduceEq, Int.reduceToNat, Nat.reduceAdd, Nat.reduceMul, Nat.reduceEqDiff, ↓reduceIte]
  exact endW [] hQ
theorem of1_fn {x : Nat} (hx : x < 18446744073709551616) : Fn1 Try.prog 15 [.row 1 [[.lit (.int .u64 (x : Int))]]] [] (NV x) [] := by
  have h := of_fn (l := [x]) (by simpa using hx) (by simp)
  rwa [show valB 18446744073709551616 [x] = x by simp [valB]] at h
theorem zero_fn {n : Nat} (hn : (wg n).length ≤ 4000000) : Fn1 Try.prog 50 [NV n] [] (.lit (.bool (decide (n = 0)))) [] := by
  refine fn1_of pl50 (by kernel_rfl) Try.call50 Try.func50 rfl (by kernel_rfl) rfl [.tmp 2] (by kernel_rfl) fun Q hQ => ?_
  have hnl := nl_len (wg n)
  by_cases h : n = 0
  · subst h
    rw [wg_zero] at hnl
    simp (maxSteps := 1000000) (disch := (first | omega | (simp only [List.length_append, List.length_set, List.length_cons, List.length_nil, List.length_replicate, List.length_take, List.length_drop, List.length_map, List.length_range, true_and, and_true]; (try omega); done) | fail)) only [go_sem, wg_zero, Int.reduceEq, Int.reduceToNat, Nat.reduceAdd, Nat.reduceMul, Nat.reduceEqDiff, ↓reduceIte]
    exact endW [] hQ
  · have h0 : 0 < (wg n).length := by
      rcases Nat.eq_zero_or_pos (wg n).length with e | e
      · exact absurd (wg_nil.1 (List.length_eq_zero_iff.1 e)) h
      · exact e
    rw [decide_eq_false h] at hQ
    have hd : decide (((nl (wg n)).length : Int) = 0) = false := decide_eq_false (by omega)
    simp (maxSteps := 1000000) (disch := (first | omega | (simp only [List.length_append, List.length_set, List.length_cons, List.length_nil, List.length_replicate, List.length_take, List.length_drop, List.length_map, List.length_range, true_and, and_true]; (try omega); done) | fail)) only [go_sem, hd, Int.reduceEq, Int.reduceToNat, Nat.reduceAdd, Nat.reduceMul, Nat.reduceEqDiff, ↓reduceIte]
    exact endW [] hQ
theorem ncmp_fn {a b : Nat} (ha : (wg a).length ≤ 4000000) (hb : (wg b).length ≤ 4000000) : Fn1 Try.prog 51 [NV a, NV b] [] (.lit (.int .i64 (cmpI a b))) [] := by
  refine fn1_of pl51 (by kernel_rfl) Try.call51 Try.func51 rfl (by kernel_rfl) rfl [.tmp 4] (by kernel_rfl) fun Q hQ => ?_
  have hal := wg_lt a
  have hbl := wg_lt b
  have hav := wg_val a
  have hbv := wg_val b
  have hnA := nl_len (wg a)
  have hnB := nl_len (wg b)
  unfold cmpI at hQ
  by_cases hl : (wg a).length = (wg b).length
  · simp (maxSteps := 1000000) (disch := (first | omega | (simp only [List.length_append, List.length_set, List.length_cons, List.length_nil, List.length_replicate, List.length_take, List.length_drop, List.length_map, List.length_range, true_and, and_true]; (try omega); done) | fail)) only [go_sem, Int.reduceEq, Int.reduceToNat, Nat.reduceAdd, Nat.reduceMul, Nat.reduceEqDiff, ↓reduceIte]
    refine LoopV_of (X := Nat) (st := fun k => ([(2, .ref 0 0 0 0), (3, .ref 1 0 0 0), (6, .lit (.int .i64 ((k : Int) - 1)))], [some (.cells [.row 1 ((nl (wg a)).map (ie .u64))]), some (.cells [.row 1 ((nl (wg b)).map (ie .u64))])]))
      (inv := fun k => k ≤ (wg a).length ∧ (wg a).drop k = (wg b).drop k) (m := fun k => k) (wg a).length [some 0, some 1] rfl (by simp (disch := (first | omega | (simp only [List.length_append, List.length_set, List.length_cons, List.length_nil, List.length_replicate, List.length_take, List.length_drop, List.length_map, List.length_range, true_and, and_true]; (try omega); done) | fail)) only [go_sem, Int.reduceEq, Int.reduceToNat, Nat.reduceAdd, Nat.reduceMul, Nat.reduceEqDiff, ↓reduceIte, true_and, and_true, and_self, List.drop_zero, List.take_length, Nat.le_refl, V.lit.injEq, Value.int.injEq, Value.bool.injEq]; try (first | omega | (simp; done) | (simp; omega))) (by simp (disch := (first | omega | (simp only [List.length_append, List.length_set, List.length_cons, List.length_nil, List.length_replicate, List.length_take, List.length_drop, List.length_map, List.length_range, true_and, and_true]; (try omega); done) | fail)) only [go_sem, Int.reduceEq, Int.reduceToNat, Nat.reduceAdd, Nat.reduceMul, Nat.reduceEqDiff, ↓reduceIte, true_and, and_true, and_self, List.drop_zero, List.take_length, Nat.le_refl, V.lit.injEq, Value.int.injEq, Value.bool.injEq]; try (first | omega | (simp; done) | (simp; omega))) ⟨by omega, by rw [List.drop_of_length_le (Nat.le_refl _), List.drop_of_length_le (by omega)]⟩ ?_
    rintro k ⟨hk, hd⟩
    by_cases h : 0 < k
    · obtain ⟨i, rfl⟩ : ∃ i, k = i + 1 := ⟨k - 1, by omega⟩
      have hga := nl_get (wg a) i
      have hgb := nl_get (wg b) i
      have hki : (((i + 1 : Nat) : Int) - 1).toNat = i := by omega
      by_cases h1 : (wg a).getD i 0 < (wg b).getD i 0
      · have hlt := valB_cmp (by decide) hal hbl hl (by omega) hd h1
        rw [hav, hbv] at hlt
        rw [if_pos hlt] at hQ
        simp (maxSteps := 1000000) (disch := (first | omega | (simp only [List.length_append, List.length_set, List.length_cons, List.length_nil, List.length_replicate, List.length_take, List.length_drop, List.length_map, List.length_range, true_and, and_true]; (try omega); done) | fail)) only [go_sem, hki, hga, hgb, Int.reduceEq, Int.reduceToNat, Nat.reduceAdd, Nat.reduceMul, Nat.reduceEqDiff, ↓reduceIte]
        exact endW [] hQ
      · by_cases h2 : (wg b).getD i 0 < (wg a).getD i 0
        · have hlt := valB_cmp (by decide) hbl hal hl.symm (by omega) hd.symm h2
          rw [hav, hbv] at hlt
          rw [if_neg (by omega), if_pos hlt] at hQ
          simp (maxSteps := 1000000) (disch := (first | omega | (simp only [List.length_append, List.length_set, List.length_cons, List.length_nil, List.length_replicate, List.length_take, List.length_drop, List.length_map, List.length_range, true_and, and_true]; (try omega); done) | fail)) only [go_sem, hki, hga, hgb, Int.reduceEq, Int.reduceToNat, Nat.reduceAdd, Nat.reduceMul, Nat.reduceEqDiff, ↓reduceIte]
          exact endW [] hQ
        · simp (maxSteps := 1000000) (disch := (first | omega | (simp only [List.length_append, List.length_set, List.length_cons, List.length_nil, List.length_replicate, List.length_take, List.length_drop, List.length_map, List.length_range, true_and, and_true]; (try omega); done) | fail)) only [go_sem, hki, hga, hgb, Int.reduceEq, Int.reduceToNat, Nat.reduceAdd, Nat.reduceMul, Nat.reduceEqDiff, ↓reduceIte]
          refine nextW i [some 0, some 1] ⟨by omega, ?_⟩ (by omega)
          rw [List.drop_eq_getElem_cons (show i < (wg a).length by omega), List.drop_eq_getElem_cons (show i < (wg b).length by omega), hd]
          congr 1
          simp only [List.getD_eq_getElem?_getD, List.getElem?_eq_getElem (show i < (wg a).length by omega), List.getElem?_eq_getElem (show i < (wg b).length by omega), Option.getD_some] at h1 h2
          omega
    · obtain rfl : k = 0 := by omega
      rw [List.drop_zero, List.drop_zero] at hd
      rw [hd] at hav
      rw [if_neg (by omega), if_neg (by omega)] at hQ
      simp (maxSteps := 1000000) (disch := (first | omega | (simp only [List.length_append, List.length_set, List.length_cons, List.length_nil, List.length_replicate, List.length_take, List.length_drop, List.length_map, List.length_range, true_and, and_true]; (try omega); done) | fail)) only [go_sem, Int.reduceEq, Int.reduceToNat, Nat.reduceAdd, Nat.reduceMul, Nat.reduceEqDiff, ↓reduceIte]
      exact endW [] hQ
  · by_cases h : (wg a).length < (wg b).length
    · have hlt := dgB_len_lt (B := 18446744073709551616) (by decide) h
      rw [if_pos hlt] at hQ
      have hmm : max (-1) (min (((wg a).length : Int) - ((wg b).length : Int)) 1) = -1 := by omega
      simp (maxSteps := 1000000) (disch := (first | omega | (simp only [List.length_append, List.length_set, List.length_cons, List.length_nil, List.length_replicate, List.length_take, List.length_drop, List.length_map, List.length_range, true_and, and_true]; (try omega); done) | fail)) only [go_sem, hmm, Int.reduceEq, Int.reduceToNat, Nat.reduceAdd, Nat.reduceMul, Nat.reduceEqDiff, ↓reduceIte]
      exact endW [] hQ
    · have hlt := dgB_len_lt (B := 18446744073709551616) (by decide) (show (wg b).length < (wg a).length by omega)
      rw [if_neg (by omega), if_pos hlt] at hQ
      have hmm : max (-1) (min (((wg a).length : Int) - ((wg b).length : Int)) 1) = 1 := by omega
      simp (maxSteps := 1000000) (disch := (first | omega | (simp only [List.length_append, List.length_set, List.length_cons, List.length_nil, List.length_replicate, List.length_take, List.length_drop, List.length_map, List.length_range, true_and, and_true]; (try omega); done) | fail)) only [go_sem, hmm, Int.reduceEq, Int.reduceToNat, Nat.reduceAdd, Nat.reduceMul, Nat.reduceEqDiff, ↓reduceIte]
      exact endW [] hQ
end Go.Proofs.Ytfemchdaoihogaa
