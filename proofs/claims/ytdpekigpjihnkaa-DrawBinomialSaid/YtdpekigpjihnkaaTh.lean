import Derived.Test.YtdpekigpjihnkaaTg
/-! Package tallymarklaw11: DrawBinomial. -/
namespace Go.Proofs.Ytdpekigpjihnkaa
open Go.Eng Go.Vx
set_option linter.unusedSimpArgs false
set_option linter.unusedVariables false
set_option maxRecDepth 100000
theorem binOk_spec {y : Nat} (h : y < 8) : (treeX (askY y) 8).2 = 0 ∧ (treeX (askY y) 8).1.getD (y + 1) 0 = 0 ∧ ∀ k, k < y + 1 → (treeX (askY y) 8).1.getD k 0 = waysL y k * 2 ^ (8 - y) := by
  have h1 := List.all_eq_true.1 binOks y (List.mem_range.2 h)
  unfold binOk at h1
  generalize treeX (askY y) 8 = r at *
  simp only [Bool.and_eq_true, List.all_eq_true, List.mem_range, beq_iff_eq] at h1
  exact ⟨h1.1.1, h1.1.2, h1.2⟩
def waysB (Y : Nat) : Bool := (List.range (Y + 2)).all fun k => decide (0 ≤ waysL Y k) && decide (waysL Y k ≤ 100) && (waysL Y (k + 1) == (waysL Y k * ((Y : Int) - k)).tdiv ((k : Int) + 1))
theorem waysBs : (List.range 8).all waysB = true := by decide +kernel
theorem ways_spec {y k : Nat} (h : y < 8) (hk : k < y + 2) : 0 ≤ waysL y k ∧ waysL y k ≤ 100 ∧ waysL y (k + 1) = (waysL y k * ((y : Int) - k)).tdiv ((k : Int) + 1) := by
  have h1 := List.all_eq_true.1 waysBs y (List.mem_range.2 h)
  unfold waysB at h1
  have h2 := List.all_eq_true.1 h1 k (List.mem_range.2 hk)
  simp only [Bool.and_eq_true, decide_eq_true_eq, beq_iff_eq] at h2
  exact ⟨h2.1.1, h2.1.2, h2.2⟩
theorem drawBinomial_fn {n : Int} (h0 : -9223372036854775808 ≤ n) (h1 : n ≤ 9223372036854775807) : Fn1 Try.prog 10 [.lit (.int .i64 n)] [] (.lit (.bool true)) [] := by
  obtain ⟨y, hm⟩ : ∃ y : Nat, n % 8 = (y : Int) := ⟨(n % 8).toNat, by omega⟩
  have hy8 : y < 8 := by omega
  refine fn1_of pl10 (by kernel_rfl) Try.call10 Try.func10 rfl (by kernel_rfl) rfl [.tmp 2] (by kernel_rfl) fun Q hQ => ?_
  simp (disch := (first | omega | (simp only [List.length_append, List.length_set, List.length_cons, List.length_nil, List.length_replicate, List.length_take, List.length_drop, List.length_map, List.length_range, true_and, and_true]; (try omega); done) | fail)) only [go_sem, Int.reduceEq, Int.reduceToNat, Nat.reduceAdd, Nat.reduceMul, Nat.reduceEqDiff, ↓reduceIte]
  refine callV0 (awake11_fn) rfl rfl ?_
  simp (disch := (first | omega | (simp only [List.length_append, List.length_set, List.length_cons, List.length_nil, List.length_replicate, List.length_take, List.length_drop, List.length_map, List.length_range, true_and, and_true]; (try omega); done) | fail)) only [go_sem, hm, Int.reduceEq, Int.reduceToNat, Nat.reduceAdd, Nat.reduceMul, Nat.reduceEqDiff, ↓reduceIte]
  refine callW [some 0] [] (tree_fn (most := 8) (by decide) ((askY_fn (Y := y) (by omega)).le (by decide))) ?_
  have hone : oneC (Value.int IntKind.i64 0) = true := rfl
  have hz : List.map V.lit (List.replicate 64 (Value.int IntKind.i64 0)) = ofV (List.replicate 64 0) := by unfold ofV; rw [List.map_replicate, List.map_replicate]
  have hok := treeX_ok (askY y) 8
  obtain ⟨hs1, hs2, hs3⟩ := binOk_spec hy8
  generalize treeX (askY y) 8 = r at *
  obtain ⟨l, op⟩ := r
  obtain ⟨hl, hB, ho1, ho2⟩ := hok
  dsimp only at hl hB ho1 ho2 hs1 hs2 hs3 ⊢
  subst hs1
  have hlen : (ofV l).length = 64 := by rw [ofV_len]; exact hl
  simp (disch := (first | omega | (simp only [List.length_append, List.length_set, List.length_cons, List.length_nil, List.length_replicate, List.length_take, List.length_drop, List.length_map, List.length_range, true_and, and_true]; (try omega); done) | fail)) only [go_sem, hone, hz, or_true, ofV_tk hl, ofV_all (show (List.replicate 64 (0 : Int)).length = l.length by rw [hl]; rfl), ofV_lenK hl, Int.reduceEq, Int.reduceToNat, Nat.reduceAdd, Nat.reduceMul, Nat.reduceEqDiff, ↓reduceIte]
  refine LoopV_of (X := Nat) (st := fun k => ([(1, .ref 0 0 0 0), (3, .ref 1 0 0 0), (4, .lit (.int .i64 0)), (5, .lit (.int .i64 (waysL y k))), (6, .lit (.int .i64 (k : Int)))], [some (.cells [.lit (.int .i64 (y : Int))]), some (.cells (ofV l))]))
    (inv := fun k => k ≤ y + 1) (m := fun k => y + 1 - k) 0 [some 0, some 1] rfl (by simp (disch := (first | omega | (simp only [List.length_append, List.length_set, List.length_cons, List.length_nil, List.length_replicate, List.length_take, List.length_drop, List.length_map, List.length_range, true_and, and_true]; (try omega); done) | fail)) only [go_sem, Int.reduceEq, Int.reduceToNat, Nat.reduceAdd, Nat.reduceMul, Nat.reduceEqDiff, ↓reduceIte, true_and, and_true, and_self, List.drop_zero, List.take_length, Nat.le_refl, V.lit.injEq, Value.int.injEq, Value.bool.injEq]; try (first | omega | (simp; done) | (simp; omega))) (by rw [show waysL y 0 = 1 from rfl]; (simp (disch := (first | omega | (simp only [List.length_append, List.length_set, List.length_cons, List.length_nil, List.length_replicate, List.length_take, List.length_drop, List.length_map, List.length_range, true_and, and_true]; (try omega); done) | fail)) only [go_sem, Int.reduceEq, Int.reduceToNat, Nat.reduceAdd, Nat.reduceMul, Nat.reduceEqDiff, ↓reduceIte, true_and, and_true, and_self, List.drop_zero, List.take_length, Nat.le_refl, V.lit.injEq, Value.int.injEq, Value.bool.injEq]; try (first | omega | (simp; done) | (simp; omega)))) (by omega) ?_
  intro k hk
  by_cases hky : k < y + 1
  · have e := hs3 k hky
    obtain ⟨w1, w2, w3⟩ := ways_spec hy8 (k := k) (by omega)
    obtain ⟨v1, v2, -⟩ := ways_spec hy8 (k := k + 1) (by omega)
    have hsub : ((8 : Int) - (y : Int)) = ((8 - y : Nat) : Int) := by omega
    have hp1 : (2 : Int) ^ (8 - y) ≤ 2 ^ 8 := by
      have := Nat.pow_le_pow_right (n := 2) (by decide) (show 8 - y ≤ 8 by omega)
      exact_mod_cast this
    have hp0 : (0 : Int) ≤ 2 ^ (8 - y) := Int.pow_nonneg (by decide)
    have hm1 : waysL y k * 2 ^ (8 - y) ≤ 100 * 2 ^ 8 := Int.mul_le_mul w2 hp1 hp0 (by decide)
    have hm0 : 0 ≤ waysL y k * 2 ^ (8 - y) := Int.mul_nonneg w1 hp0
    have hwr : IntKind.i64.wrap (waysL y k * 2 ^ (8 - y)) = waysL y k * 2 ^ (8 - y) := by
      generalize waysL y k * 2 ^ (8 - y) = z at *
      simp (disch := (first | omega | (simp only [List.length_append, List.length_set, List.length_cons, List.length_nil, List.length_replicate, List.length_take, List.length_drop, List.length_map, List.length_range, true_and, and_true]; (try omega); done) | fail)) only [go_sem, Int.reduceEq, Int.reduceToNat, Nat.reduceAdd, Nat.reduceMul, Nat.reduceEqDiff, ↓reduceIte]
    have hm2 : waysL y k * ((y : Int) - k) ≤ 100 * 8 := Int.mul_le_mul w2 (by omega) (by omega) (by decide)
    have hm3 : 0 ≤ waysL y k * ((y : Int) - k) := Int.mul_nonneg w1 (by omega)
    have hk1 : ((k : Int) + 1) ≠ 0 := by omega
    have w4 : waysL y k * ((y : Int) - k) / ((k : Int) + 1) = waysL y (k + 1) := rfl
    simp (disch := (first | omega | (simp only [List.length_append, List.length_set, List.length_cons, List.length_nil, List.length_replicate, List.length_take, List.length_drop, List.length_map, List.length_range, true_and, and_true]; (try omega); done) | fail)) only [go_sem, ofV_at (show k < l.length by omega), e, hsub, hwr, Int.toNat_natCast, w4, Int.reduceEq, Int.reduceToNat, Nat.reduceAdd, Nat.reduceMul, Nat.reduceEqDiff, ↓reduceIte]
    refine nextW (k + 1) [some 0, some 1] (by omega) (by omega)
  · have hyt : ((y : Int) + 1).toNat = y + 1 := by omega
    simp (disch := (first | omega | (simp only [List.length_append, List.length_set, List.length_cons, List.length_nil, List.length_replicate, List.length_take, List.length_drop, List.length_map, List.length_range, true_and, and_true]; (try omega); done) | fail)) only [go_sem, hyt, ofV_at (show y + 1 < l.length by omega), hs2, Int.reduceEq, Int.reduceToNat, Nat.reduceAdd, Nat.reduceMul, Nat.reduceEqDiff, ↓reduceIte]
    exact endW [] hQ
end Go.Proofs.Ytdpekigpjihnkaa
