import Derived.Test.YtdpekigpjihnkaaTf
/-! Package tallymarklaw11: DrawBelow. -/
namespace Go.Proofs.Ytdpekigpjihnkaa
open Go.Eng Go.Vx
set_option linter.unusedSimpArgs false
set_option linter.unusedVariables false
set_option maxRecDepth 100000
theorem AskOk.le {g m k : Nat} {v : Int} {A : List Bool → Int × Int} (h : AskOk g m v A) (hk : k ≤ m) : AskOk g k v A := fun L hL => h L (by omega)
theorem treeX_ok (A : List Bool → Int × Int) (most : Nat) : TrOk (2 ^ most) (treeX A most) := by
  have h := tree_ok A most [] (List.replicate 64 0, 0) 0 tr0_ok
  rw [Int.zero_add] at h
  exact h
theorem belowOk_spec {m : Nat} (h : m < 16) : (∀ i, i < 64 → (i < m + 1 → (treeX (askB (m + 1)) 12).1.getD i 0 = (treeX (askB (m + 1)) 12).1.getD 0 0) ∧ (m + 1 ≤ i → (treeX (askB (m + 1)) 12).1.getD i 0 = 0)) ∧ ((m + 1 : Nat) : Int) * (treeX (askB (m + 1)) 12).1.getD 0 0 + (treeX (askB (m + 1)) 12).2 = 4096 := by
  have h1 := List.all_eq_true.1 belowOks m (List.mem_range.2 h)
  unfold belowOk at h1
  generalize treeX (askB (m + 1)) 12 = r at *
  simp only [Bool.and_eq_true, List.all_eq_true, List.mem_range, beq_iff_eq] at h1
  refine ⟨fun i hi => ⟨fun hm => ?_, fun hm => ?_⟩, h1.2⟩
  · have := h1.1 i hi
    rw [if_pos hm] at this
    simpa using this
  · have := h1.1 i hi
    rw [if_neg (by omega)] at this
    simpa using this
theorem drawBelow_fn {n : Int} (h0 : -9223372036854775808 ≤ n) (h1 : n ≤ 9223372036854775807) : Fn1 Try.prog 6 [.lit (.int .i64 n)] [] (.lit (.bool true)) [] := by
  obtain ⟨m, hm⟩ : ∃ m : Nat, n % 16 = (m : Int) := ⟨(n % 16).toNat, by omega⟩
  have hN : 1 + n % 16 = ((m + 1 : Nat) : Int) := by omega
  have hm16 : m < 16 := by omega
  refine fn1_of pl6 (by kernel_rfl) Try.call6 Try.func6 rfl (by kernel_rfl) rfl [.tmp 2] (by kernel_rfl) fun Q hQ => ?_
  simp (disch := (first | omega | (simp only [List.length_append, List.length_set, List.length_cons, List.length_nil, List.length_replicate, List.length_take, List.length_drop, List.length_map, List.length_range, true_and, and_true]; (try omega); done) | fail)) only [go_sem, Int.reduceEq, Int.reduceToNat, Nat.reduceAdd, Nat.reduceMul, Nat.reduceEqDiff, ↓reduceIte]
  refine callV0 (awake11_fn) rfl rfl ?_
  simp (disch := (first | omega | (simp only [List.length_append, List.length_set, List.length_cons, List.length_nil, List.length_replicate, List.length_take, List.length_drop, List.length_map, List.length_range, true_and, and_true]; (try omega); done) | fail)) only [go_sem, hN, Int.reduceEq, Int.reduceToNat, Nat.reduceAdd, Nat.reduceMul, Nat.reduceEqDiff, ↓reduceIte]
  refine callW [some 0] [] (tree_fn (most := 12) (by decide) ((askB_fn (n := m + 1) (by omega) (by omega)).le (by decide))) ?_
  have hone : oneC (Value.int IntKind.i64 0) = true := rfl
  have hz : List.map V.lit (List.replicate 64 (Value.int IntKind.i64 0)) = ofV (List.replicate 64 0) := by unfold ofV; rw [List.map_replicate, List.map_replicate]
  have hok := treeX_ok (askB (m + 1)) 12
  obtain ⟨hs1, hs2⟩ := belowOk_spec hm16
  generalize treeX (askB (m + 1)) 12 = r at *
  obtain ⟨l, op⟩ := r
  obtain ⟨hl, hB, ho1, ho2⟩ := hok
  dsimp only at hl hB ho1 ho2 hs1 hs2 ⊢
  have hlen : (ofV l).length = 64 := by rw [ofV_len]; exact hl
  simp (disch := (first | omega | (simp only [List.length_append, List.length_set, List.length_cons, List.length_nil, List.length_replicate, List.length_take, List.length_drop, List.length_map, List.length_range, true_and, and_true]; (try omega); done) | fail)) only [go_sem, hone, hz, or_true, ofV_tk hl, ofV_all (show (List.replicate 64 (0 : Int)).length = l.length by rw [hl]; rfl), ofV_lenK hl, Int.reduceEq, Int.reduceToNat, Nat.reduceAdd, Nat.reduceMul, Nat.reduceEqDiff, ↓reduceIte]
  refine LoopV_of (X := Nat) (st := fun i => ([(1, .ref 0 0 0 0), (3, .ref 1 0 0 0), (4, .lit (.int .i64 op)), (17, .agg (ofV l)), (18, .lit (.int .i64 (i : Int)))], [some (.cells [.lit (.int .i64 ((m + 1 : Nat) : Int))]), some (.cells (ofV l))]))
    (inv := fun i => i ≤ 64) (m := fun i => 64 - i) 0 [some 0, some 1] rfl (by simp (disch := (first | omega | (simp only [List.length_append, List.length_set, List.length_cons, List.length_nil, List.length_replicate, List.length_take, List.length_drop, List.length_map, List.length_range, true_and, and_true]; (try omega); done) | fail)) only [go_sem, Int.reduceEq, Int.reduceToNat, Nat.reduceAdd, Nat.reduceMul, Nat.reduceEqDiff, ↓reduceIte, true_and, and_true, and_self, List.drop_zero, List.take_length, Nat.le_refl, V.lit.injEq, Value.int.injEq, Value.bool.injEq]; try (first | omega | (simp; done) | (simp; omega))) (by simp (disch := (first | omega | (simp only [List.length_append, List.length_set, List.length_cons, List.length_nil, List.length_replicate, List.length_take, List.length_drop, List.length_map, List.length_range, true_and, and_true]; (try omega); done) | fail)) only [go_sem, Int.reduceEq, Int.reduceToNat, Nat.reduceAdd, Nat.reduceMul, Nat.reduceEqDiff, ↓reduceIte, true_and, and_true, and_self, List.drop_zero, List.take_length, Nat.le_refl, V.lit.injEq, Value.int.injEq, Value.bool.injEq]; try (first | omega | (simp; done) | (simp; omega))) (by omega) ?_
  intro i hi
  by_cases hi64 : i < 64
  · obtain ⟨ha, hb⟩ := hs1 i hi64
    by_cases him : i < m + 1
    · have e := ha him
      have hne : decide (l.getD i 0 = l.getD 0 0) = true := decide_eq_true e
      simp (disch := (first | omega | (simp only [List.length_append, List.length_set, List.length_cons, List.length_nil, List.length_replicate, List.length_take, List.length_drop, List.length_map, List.length_range, true_and, and_true]; (try omega); done) | fail)) only [go_sem, ofV_at (show i < l.length by omega), ofV_at (show 0 < l.length by omega), e, Int.reduceEq, Int.reduceToNat, Nat.reduceAdd, Nat.reduceMul, Nat.reduceEqDiff, ↓reduceIte]
      refine nextW (i + 1) [some 0, some 1] (by omega) (by omega)
    · have e := hb (by omega)
      simp (disch := (first | omega | (simp only [List.length_append, List.length_set, List.length_cons, List.length_nil, List.length_replicate, List.length_take, List.length_drop, List.length_map, List.length_range, true_and, and_true]; (try omega); done) | fail)) only [go_sem, ofV_at (show i < l.length by omega), ofV_at (show 0 < l.length by omega), e, Int.reduceEq, Int.reduceToNat, Nat.reduceAdd, Nat.reduceMul, Nat.reduceEqDiff, ↓reduceIte]
      refine nextW (i + 1) [some 0, some 1] (by omega) (by omega)
  · simp (disch := (first | omega | (simp only [List.length_append, List.length_set, List.length_cons, List.length_nil, List.length_replicate, List.length_take, List.length_drop, List.length_map, List.length_range, true_and, and_true]; (try omega); done) | fail)) only [go_sem, ofV_at (show 0 < l.length by omega), Int.reduceEq, Int.reduceToNat, Nat.reduceAdd, Nat.reduceMul, Nat.reduceEqDiff, ↓reduceIte]
    rw [decide_eq_true hs2]
    exact endW [] hQ
end Go.Proofs.Ytdpekigpjihnkaa
