import Derived.Test.YtnfmpphlkalbfaaGreatDoorRb
import Derived.Test.YtnfmpphlkalbfaaGreatDoorD1
/-! Package tallymarkref05: of words, quotients, powers. -/
namespace Go.Proofs.YtnfmpphlkalbfaaGreatDoor
open Go.Eng Go.Vx
set_option linter.unusedSimpArgs false
set_option linter.unusedVariables false
set_option maxRecDepth 100000
theorem dg_len {n k : Nat} (h : n < 10000 ^ k) : (dg n).length ≤ k := (dgB_len_le (by decide)).2 h
theorem dg_mul (a b : Nat) : (dg (a * b)).length ≤ (dg a).length + (dg b).length := dgB_len_mul (by decide) a b
theorem dg_mono {a b : Nat} (h : a ≤ b) : (dg a).length ≤ (dg b).length := dgB_len_mono (by decide) h
theorem dg_zero : dg 0 = [] := dgB_zero _
theorem pow64 (n : Nat) : 18446744073709551616 ^ n ≤ 10000 ^ (5 * n) := by
  rw [Nat.pow_mul]
  exact Nat.pow_le_pow_left (by decide) n
def wv (W : List Nat) : Nat := valB 18446744073709551616 W
theorem wv_len {W : List Nat} (h : ∀ x ∈ W, x < 18446744073709551616) : (dg (wv W)).length ≤ 5 * W.length :=
  dg_len (Nat.lt_of_lt_of_le (valB_lt h) (pow64 _))
theorem wv_drop {W : List Nat} {i : Nat} (h : i < W.length) : wv (W.drop i) = wv (W.drop (i + 1)) * 18446744073709551616 + W.getD i 0 := by
  unfold wv
  rw [List.drop_eq_getElem_cons h]
  have e : W.getD i 0 = W[i] := by simp [List.getD_eq_getElem?_getD, h]
  rw [e]
  show _ + 18446744073709551616 * _ = _
  omega
theorem lof_fn {W : List Nat} (hW : ∀ x ∈ W, x < 18446744073709551616) (hl : W.length ≤ 50000) : Fn1 Tryz.prog 26 [.row 1 ((nl W).map (ie .u64))] [] (DV (wv W)) [] := by
  refine fn1N_of pl26 (by kernel_rfl) Tryz.call26 Tryz.func26 rfl (by kernel_rfl) rfl [.tmp 2] (by kernel_rfl) fun Q hQ => ?_
  have hnl := nl_len W
  have d32 : (dg 4294967296).length ≤ 3 := dg_len (by decide)
  simp (maxSteps := 1000000) (disch := (first | omega | (simp only [lnA, List.length_map, List.length_range, true_and, and_true]; (try omega); done) | fail)) only [go_sem, Int.reduceEq, Int.reduceToNat, Nat.reduceAdd, Nat.reduceMul, Nat.reduceEqDiff, ↓reduceIte]
  refine callV0 (small_fn (n := 4294967296) (by decide)) rfl rfl ?_
  simp (maxSteps := 1000000) (disch := (first | omega | (simp only [lnA, List.length_map, List.length_range, true_and, and_true]; (try omega); done) | fail)) only [go_sem, Int.reduceEq, Int.reduceToNat, Nat.reduceAdd, Nat.reduceMul, Nat.reduceEqDiff, ↓reduceIte]
  refine callV0 (small_fn (n := 4294967296) (by decide)) rfl rfl ?_
  simp (maxSteps := 1000000) (disch := (first | omega | (simp only [lnA, List.length_map, List.length_range, true_and, and_true]; (try omega); done) | fail)) only [go_sem, Int.reduceEq, Int.reduceToNat, Nat.reduceAdd, Nat.reduceMul, Nat.reduceEqDiff, ↓reduceIte]
  refine callV0 (lmul_fn (a := 4294967296) (b := 4294967296) (Nat.le_trans d32 (by decide)) (Nat.le_trans d32 (by decide))) rfl rfl ?_
  simp (maxSteps := 1000000) (disch := (first | omega | (simp only [lnA, List.length_map, List.length_range, true_and, and_true]; (try omega); done) | fail)) only [go_sem, Int.reduceEq, Int.reduceToNat, Nat.reduceAdd, Nat.reduceMul, Nat.reduceEqDiff, ↓reduceIte]
  have d64 : (dg (4294967296 * 4294967296)).length ≤ 5 := dg_len (by decide)
  refine LoopV_of (X := Nat) (st := fun k => ([(0, .row 1 ((nl W).map (ie .u64))), (3, DV (wv (W.drop k))), (4, DV (4294967296 * 4294967296)), (5, .lit (.int .i64 ((k : Int) - 1)))], []))
    (inv := fun k => k ≤ W.length) (m := fun k => k) W.length [] rfl (by simp (disch := (first | omega | (simp only [lnA, List.length_map, List.length_range, true_and, and_true]; (try omega); done) | fail)) only [go_sem, Int.reduceEq, Int.reduceToNat, Nat.reduceAdd, Nat.reduceMul, Nat.reduceEqDiff, ↓reduceIte, true_and, and_true, and_self, List.drop_zero, List.take_length, Nat.le_refl, V.lit.injEq, Value.int.injEq, Value.bool.injEq]; try (first | omega | (simp; done) | (simp; omega))) (by rw [List.drop_of_length_le (Nat.le_refl _), show wv [] = 0 from rfl]; simp only [DV, dg_zero, nl_nil, List.map_nil]; (simp (disch := (first | omega | (simp only [lnA, List.length_map, List.length_range, true_and, and_true]; (try omega); done) | fail)) only [go_sem, Int.reduceEq, Int.reduceToNat, Nat.reduceAdd, Nat.reduceMul, Nat.reduceEqDiff, ↓reduceIte, true_and, and_true, and_self, List.drop_zero, List.take_length, Nat.le_refl, V.lit.injEq, Value.int.injEq, Value.bool.injEq]; try (first | omega | (simp; done) | (simp; omega)))) (Nat.le_refl _) ?_
  intro k hk
  by_cases h : 0 < k
  · obtain ⟨i, rfl⟩ : ∃ i, k = i + 1 := ⟨k - 1, by omega⟩
    have hg := nl_get W i
    have hx := getD_ltB (by decide) hW i
    have hki : (((i + 1 : Nat) : Int) - 1).toNat = i := by omega
    have hwd := wv_drop (W := W) (i := i) (by omega)
    have hwl := wv_len (W := W.drop (i + 1)) (fun x hx => hW x (List.mem_of_mem_drop hx))
    have hdl : (W.drop (i + 1)).length ≤ W.length := by simp
    generalize W.getD i 0 = x at *
    generalize wv (W.drop (i + 1)) = v at *
    have hq : (x : Int) / 4294967296 = ((x / 4294967296 : Nat) : Int) := by omega
    have hr : (x : Int) % 4294967296 = ((x % 4294967296 : Nat) : Int) := by omega
    have dh : (dg (x / 4294967296)).length ≤ 3 := dg_len (Nat.lt_of_lt_of_le (show x / 4294967296 < 4294967296 by omega) (by decide))
    have dl : (dg (x % 4294967296)).length ≤ 3 := dg_len (Nat.lt_of_lt_of_le (Nat.mod_lt _ (by decide)) (by decide))
    have dm := dg_mul v (4294967296 * 4294967296)
    have dm2 := dg_mul (x / 4294967296) 4294967296
    have hsum : x / 4294967296 * 4294967296 + x % 4294967296 = x := by omega
    have dx : (dg x).length ≤ 5 := dg_len (Nat.lt_of_lt_of_le hx (by decide))
    simp (maxSteps := 1000000) (disch := (first | omega | (simp only [lnA, List.length_map, List.length_range, true_and, and_true]; (try omega); done) | fail)) only [go_sem, hki, hg, hq, hr, Int.reduceEq, Int.reduceToNat, Nat.reduceAdd, Nat.reduceMul, Nat.reduceEqDiff, ↓reduceIte]
    refine callV0 (small_fn (n := x / 4294967296) (by omega)) rfl rfl ?_
    simp (maxSteps := 1000000) (disch := (first | omega | (simp only [lnA, List.length_map, List.length_range, true_and, and_true]; (try omega); done) | fail)) only [go_sem, hki, hg, hq, hr, Int.reduceEq, Int.reduceToNat, Nat.reduceAdd, Nat.reduceMul, Nat.reduceEqDiff, ↓reduceIte]
    refine callV0 (small_fn (n := x % 4294967296) (by omega)) rfl rfl ?_
    simp (maxSteps := 1000000) (disch := (first | omega | (simp only [lnA, List.length_map, List.length_range, true_and, and_true]; (try omega); done) | fail)) only [go_sem, Int.reduceEq, Int.reduceToNat, Nat.reduceAdd, Nat.reduceMul, Nat.reduceEqDiff, ↓reduceIte]
    refine callV0 (lmul_fn (a := v) (b := 4294967296 * 4294967296) (Nat.le_trans hwl (by omega)) (Nat.le_trans d64 (by decide))) rfl rfl ?_
    simp (maxSteps := 1000000) (disch := (first | omega | (simp only [lnA, List.length_map, List.length_range, true_and, and_true]; (try omega); done) | fail)) only [go_sem, Int.reduceEq, Int.reduceToNat, Nat.reduceAdd, Nat.reduceMul, Nat.reduceEqDiff, ↓reduceIte]
    refine callV0 (small_fn (n := 4294967296) (by decide)) rfl rfl ?_
    simp (maxSteps := 1000000) (disch := (first | omega | (simp only [lnA, List.length_map, List.length_range, true_and, and_true]; (try omega); done) | fail)) only [go_sem, Int.reduceEq, Int.reduceToNat, Nat.reduceAdd, Nat.reduceMul, Nat.reduceEqDiff, ↓reduceIte]
    refine callV0 (lmul_fn (a := x / 4294967296) (b := 4294967296) (Nat.le_trans dh (by decide)) (Nat.le_trans d32 (by decide))) rfl rfl ?_
    simp (maxSteps := 1000000) (disch := (first | omega | (simp only [lnA, List.length_map, List.length_range, true_and, and_true]; (try omega); done) | fail)) only [go_sem, Int.reduceEq, Int.reduceToNat, Nat.reduceAdd, Nat.reduceMul, Nat.reduceEqDiff, ↓reduceIte]
    refine callV0 (ladd_fn (a := x / 4294967296 * 4294967296) (b := x % 4294967296) (Nat.le_trans dm2 (Nat.le_trans (Nat.add_le_add dh d32) (by decide))) (Nat.le_trans dl (by decide))) rfl rfl ?_
    rw [hsum]
    simp (maxSteps := 1000000) (disch := (first | omega | (simp only [lnA, List.length_map, List.length_range, true_and, and_true]; (try omega); done) | fail)) only [go_sem, Int.reduceEq, Int.reduceToNat, Nat.reduceAdd, Nat.reduceMul, Nat.reduceEqDiff, ↓reduceIte]
    refine callV0 (ladd_fn (a := v * (4294967296 * 4294967296)) (b := x) (Nat.le_trans dm (Nat.le_trans (Nat.add_le_add (Nat.le_trans hwl (show 5 * (W.drop (i + 1)).length ≤ 250000 by omega)) d64) (by decide))) (Nat.le_trans dx (by decide))) rfl rfl ?_
    rw [show v * (4294967296 * 4294967296) + x = wv (W.drop i) by rw [hwd]]
    simp (maxSteps := 1000000) (disch := (first | omega | (simp only [lnA, List.length_map, List.length_range, true_and, and_true]; (try omega); done) | fail)) only [go_sem, Int.reduceEq, Int.reduceToNat, Nat.reduceAdd, Nat.reduceMul, Nat.reduceEqDiff, ↓reduceIte]
    refine nextW i [] (by omega) (by omega)
  · obtain rfl : k = 0 := by omega
    rw [List.drop_zero]
    simp (maxSteps := 1000000) (disch := (first | omega | (simp only [lnA, List.length_map, List.length_range, true_and, and_true]; (try omega); done) | fail)) only [go_sem, Int.reduceEq, Int.reduceToNat, Nat.reduceAdd, Nat.reduceMul, Nat.reduceEqDiff, ↓reduceIte]
    exact endW [] hQ
end Go.Proofs.YtnfmpphlkalbfaaGreatDoor
