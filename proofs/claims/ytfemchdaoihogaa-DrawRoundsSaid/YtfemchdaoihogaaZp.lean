import Derived.Test.YtfemchdaoihogaaZm
import Derived.Test.YtfemchdaoihogaaZl
/-! DrawRounds. -/
namespace Go.Proofs.Ytfemchdaoihogaa
open Go.Eng Go.Vx
set_option linter.unusedSimpArgs false
set_option linter.unusedVariables false
set_option maxRecDepth 100000
def askR (P D : Nat) (L : List Bool) : Int × Int := (((rndN L P D 0).1 : Int), (rndN L P D 0).2.1)
theorem askR_fn {P D : Nat} (hP : P ≤ 100000) (hD0 : D ≠ 0) (hD : D ≤ 100000) : AskQ 26 20 (((P : Int) : Rat) / ((D : Int) : Rat)) (askR P D) := by
  intro L hL
  refine ⟨(rndN L P D 0).2.2.1, (rndN L P D 0).2.2.2, ?_⟩
  refine fn1_of pl26 (by kernel_rfl) Try.call26 Try.func26 rfl (by kernel_rfl) rfl [.tmp 3, .tmp 4] (by kernel_rfl) fun Q hQ => ?_
  unfold askR at hQ
  have hb := draws_frac (L := L) (A := P) (B := D) (p := 0) (by omega) (by omega) hD0 (by omega) (by omega)
  generalize rndN L P D 0 = r at *
  generalize ((P : Int) : Rat) / ((D : Int) : Rat) = x at *
  simp (maxSteps := 1000000) (disch := (first | omega | (simp only [lnA, List.length_map, List.length_range, true_and, and_true]; (try omega); done) | fail)) only [go_sem, Int.reduceEq, Int.reduceToNat, Nat.reduceAdd, Nat.reduceMul, Nat.reduceEqDiff, ↓reduceIte]
  refine callW [some 0] [] (hb) ?_
  simp (maxSteps := 1000000) (disch := (first | omega | (simp only [lnA, List.length_map, List.length_range, true_and, and_true]; (try omega); done) | fail)) only [go_sem, Int.reduceEq, Int.reduceToNat, Nat.reduceAdd, Nat.reduceMul, Nat.reduceEqDiff, ↓reduceIte]
  exact endW [some 0, some 1] hQ
theorem AskQ.le {g m k : Nat} {v : Rat} {A : List Bool → Int × Int} (h : AskQ g m v A) (hk : k ≤ m) : AskQ g k v A := fun L hL => h L (by omega)
def sumW (l : List Int) : Nat → Int
  | 0 => 0
  | i + 1 => sumW l i + (i : Int) * l.getD i 0
def rndOk (P s : Nat) : Bool :=
  let r := treeX (askR P (2 ^ s)) 9
  let S := sumW r.1 64
  (List.range 64).all (fun n => r.1.getD n 0 == 0 || n == P / 2 ^ s || n == P / 2 ^ s + 1) && decide (0 ≤ r.2) && decide (r.2 ≤ 1) && decide (S * 2 ^ s ≤ P * 512) && decide ((P : Int) * 512 ≤ S * 2 ^ s + r.2 * 2 ^ s * ((P / 2 ^ s : Nat) + 1)) && decide (0 ≤ S) && decide (S ≤ 1000000)
set_option maxHeartbeats 4000000 in
theorem rndOks : (List.range 32).all (fun P => (List.range 4).all (fun s => rndOk P s)) = true := by decide +kernel
theorem treeX_ok' (A : List Bool → Int × Int) (most : Nat) : TrOk (2 ^ most) (treeX A most) := by
  have h := tree_ok A most [] (List.replicate 64 0, 0) 0 tr0_ok
  rw [Int.zero_add] at h
  exact h
theorem rndOk_spec {P s : Nat} (hP : P < 32) (hs : s < 4) {r : List Int × Int} (hr : treeX (askR P (2 ^ s)) 9 = r) :
    (∀ n, n < 64 → r.1.getD n 0 = 0 ∨ n = P / 2 ^ s ∨ n = P / 2 ^ s + 1) ∧ 0 ≤ r.2 ∧ r.2 ≤ 1 ∧ sumW r.1 64 * 2 ^ s ≤ P * 512 ∧ (P : Int) * 512 ≤ sumW r.1 64 * 2 ^ s + r.2 * 2 ^ s * ((P / 2 ^ s : Nat) + 1) ∧ 0 ≤ sumW r.1 64 ∧ sumW r.1 64 ≤ 1000000 := by
  have h1 := List.all_eq_true.1 (List.all_eq_true.1 rndOks P (List.mem_range.2 hP)) s (List.mem_range.2 hs)
  unfold rndOk at h1
  rw [hr] at h1
  simp only [Bool.and_eq_true, List.all_eq_true, List.mem_range, Bool.or_eq_true, beq_iff_eq, decide_eq_true_eq] at h1
  obtain ⟨⟨⟨⟨⟨⟨a, b⟩, c⟩, d⟩, e⟩, f⟩, g⟩ := h1
  exact ⟨fun n hn => by rcases a n hn with (h | h) | h; exact .inl h; exact .inr (.inl h); exact .inr (.inr h), b, c, d, e, f, g⟩
theorem sumW_le {l : List Int} (h : ∀ k, 0 ≤ l.getD k 0 ∧ l.getD k 0 ≤ 512) : ∀ i, i ≤ 64 → 0 ≤ sumW l i ∧ sumW l i ≤ i * 32768
  | 0, _ => by simp [sumW]
  | i + 1, hi => by
    obtain ⟨h1, h2⟩ := sumW_le h i (by omega)
    obtain ⟨h3, h4⟩ := h i
    have h5 := Int.mul_nonneg (show (0 : Int) ≤ (i : Int) by omega) h3
    have h6 := Int.mul_le_mul (show (i : Int) ≤ 64 by omega) h4 h3 (by decide)
    show 0 ≤ sumW l i + (i : Int) * l.getD i 0 ∧ sumW l i + (i : Int) * l.getD i 0 ≤ _
    generalize (i : Int) * l.getD i 0 = u at *
    omega
set_option maxHeartbeats 4000000 in
theorem drawRounds_fn {p0 q0 : Int} : Fn1 Try.prog 4 [.lit (.int .i64 p0), .lit (.int .i64 q0)] [] (.lit (.bool true)) [] := by
  obtain ⟨P, hP⟩ : ∃ m : Nat, p0 % 32 = (m : Int) := ⟨(p0 % 32).toNat, by omega⟩
  obtain ⟨s, hs⟩ : ∃ m : Nat, q0 % 4 = (m : Int) := ⟨(q0 % 4).toNat, by omega⟩
  have hP2 : P < 32 := by omega
  have hs2 : s < 4 := by omega
  refine fn1_of pl4 (by kernel_rfl) Try.call4 Try.func4 rfl (by kernel_rfl) rfl [.tmp 4] (by kernel_rfl) fun Q hQ => ?_
  simp (maxSteps := 1000000) (disch := (first | omega | (simp only [lnA, List.length_map, List.length_range, true_and, and_true]; (try omega); done) | fail)) only [go_sem, Int.reduceEq, Int.reduceToNat, Nat.reduceAdd, Nat.reduceMul, Nat.reduceEqDiff, ↓reduceIte]
  refine callV0 (awake11_fn) rfl rfl ?_
  have hs4 : s = 0 ∨ s = 1 ∨ s = 2 ∨ s = 3 := by omega
  obtain ⟨D, hD, hD1, hD8⟩ : ∃ D : Nat, 2 ^ s = D ∧ 1 ≤ D ∧ D ≤ 8 := ⟨2 ^ s, rfl, by rcases hs4 with rfl | rfl | rfl | rfl <;> decide, by rcases hs4 with rfl | rfl | rfl | rfl <;> decide⟩
  have hDi : (2 : Int) ^ s = (D : Int) := by rw [← hD]; simp
  have w1 : IntKind.i64.wrap (1 * 2 ^ s) = (D : Int) := by rw [sh1_n (by omega), hD]
  have hmk := rmake_fn (p := (P : Int)) (q := (D : Int)) (by omega) (by omega) (by omega) (by omega) (by omega)
  have hask := (askR_fn (P := P) (D := D) (by omega) (by omega) (by omega)).le (show 9 ≤ 20 by decide)
  have htr := treeQ_fn (most := 9) (by decide) hask
  have hok := treeX_ok' (askR P D) 9
  have hsp := rndOk_spec hP2 hs2 (r := treeX (askR P D) 9) (by rw [hD])
  rw [hD, hDi] at hsp
  have hdv : (P : Int) / 2 ^ s = ((P / D : Nat) : Int) := by rw [hDi]; rfl
  have hm1 := Nat.div_le_self P D
  generalize hm : P / D = m at *
  generalize ((P : Int) : Rat) / ((D : Int) : Rat) = x at *
  simp (maxSteps := 1000000) (disch := (first | omega | (simp only [lnA, List.length_map, List.length_range, true_and, and_true]; (try omega); done) | fail)) only [go_sem, hs, hP, w1, Int.reduceEq, Int.reduceToNat, Nat.reduceAdd, Nat.reduceMul, Nat.reduceEqDiff, ↓reduceIte]
  refine callV0 (hmk) rfl rfl ?_
  simp (maxSteps := 1000000) (disch := (first | omega | (simp only [lnA, List.length_map, List.length_range, true_and, and_true]; (try omega); done) | fail)) only [go_sem, Int.reduceEq, Int.reduceToNat, Nat.reduceAdd, Nat.reduceMul, Nat.reduceEqDiff, ↓reduceIte]
  refine callW [some 0] [] (htr) ?_
  generalize treeX (askR P D) 9 = r at *
  obtain ⟨l, op⟩ := r
  obtain ⟨hl, hB, ho1, ho2⟩ := hok
  obtain ⟨q1, q2, q3, q4, q5, q6, q7⟩ := hsp
  dsimp only at hl hB ho1 ho2 q1 q2 q3 q4 q5 q6 q7 ⊢
  rw [show (2 : Int) ^ 9 = 512 from rfl] at hB
  have hle := sumW_le hB
  have hlen : (ofV l).length = 64 := by rw [ofV_len]; exact hl
  have hone : oneC (Value.int IntKind.i64 0) = true := rfl
  have hz : List.map V.lit (List.replicate 64 (Value.int IntKind.i64 0)) = ofV (List.replicate 64 0) := by unfold ofV; rw [List.map_replicate, List.map_replicate]
  simp (maxSteps := 1000000) (disch := (first | omega | (simp only [lnA, List.length_map, List.length_range, true_and, and_true]; (try omega); done) | fail)) only [go_sem, hone, hz, or_true, ofV_tk hl, ofV_all (show (List.replicate 64 (0 : Int)).length = l.length by rw [hl]; rfl), ofV_lenK hl, Int.reduceEq, Int.reduceToNat, Nat.reduceAdd, Nat.reduceMul, Nat.reduceEqDiff, ↓reduceIte]
  refine LoopV_of (X := Nat) (st := fun i => ([(0, .lit (.int .i64 (P : Int))), (5, .lit (.int .i64 (s : Int))), (7, .lit (.int .i64 0)), (9, .lit (.int .i64 op)), (10, .lit (.int .i64 (sumW l i))), (38, .agg (ofV l)), (39, .lit (.int .i64 (i : Int)))], [some (.cells [.row 1 ((nl (wg x.num.natAbs)).map (ie .u64)), .lit (.bool (decide (x.num < 0))), .row 1 ((nl (wg (x.den - 1))).map (ie .u64))]), some (.cells (ofV l))]))
    (inv := fun i => i ≤ 64) (m := fun i => 64 - i) 0 [some 0, some 1] rfl (by simp (disch := (first | omega | (simp only [lnA, List.length_map, List.length_range, true_and, and_true]; (try omega); done) | fail)) only [go_sem, Int.reduceEq, Int.reduceToNat, Nat.reduceAdd, Nat.reduceMul, Nat.reduceEqDiff, ↓reduceIte, true_and, and_true, and_self, List.drop_zero, List.take_length, Nat.le_refl, V.lit.injEq, Value.int.injEq, Value.bool.injEq]; try (first | omega | (simp; done) | (simp; omega))) (by simp only [sumW]; (simp (disch := (first | omega | (simp only [lnA, List.length_map, List.length_range, true_and, and_true]; (try omega); done) | fail)) only [go_sem, Int.reduceEq, Int.reduceToNat, Nat.reduceAdd, Nat.reduceMul, Nat.reduceEqDiff, ↓reduceIte, true_and, and_true, and_self, List.drop_zero, List.take_length, Nat.le_refl, V.lit.injEq, Value.int.injEq, Value.bool.injEq]; try (first | omega | (simp; done) | (simp; omega)))) (by omega) ?_
  intro i hi
  by_cases hi64 : i < 64
  · obtain ⟨h1, h2⟩ := hle i (by omega)
    obtain ⟨h3, h4⟩ := hB i
    have h5 := Int.mul_nonneg (show (0 : Int) ≤ (i : Int) by omega) h3
    have h6 := Int.mul_le_mul (show (i : Int) ≤ 64 by omega) h4 h3 (by decide)
    have hsu : sumW l (i + 1) = sumW l i + (i : Int) * l.getD i 0 := rfl
    have hq := q1 i hi64
    have hat := fun G => ofV_at (l := l) (m := i) (G := G) (show i < l.length by omega)
    generalize l.getD i 0 = w at *
    by_cases hw : w = 0
    · simp (maxSteps := 1000000) (disch := (first | omega | (simp only [lnA, List.length_map, List.length_range, true_and, and_true]; (try omega); done) | fail)) only [go_sem, hat, Int.reduceEq, Int.reduceToNat, Nat.reduceAdd, Nat.reduceMul, Nat.reduceEqDiff, ↓reduceIte]
      refine NextV_of (i + 1) [some 0, some 1] rfl (by simp (disch := (first | omega | (simp only [lnA, List.length_map, List.length_range, true_and, and_true]; (try omega); done) | fail)) only [go_sem, Int.reduceEq, Int.reduceToNat, Nat.reduceAdd, Nat.reduceMul, Nat.reduceEqDiff, ↓reduceIte, true_and, and_true, and_self, List.drop_zero, List.take_length, Nat.le_refl, V.lit.injEq, Value.int.injEq, Value.bool.injEq]; try (first | omega | (simp; done) | (simp; omega))) (by rw [hsu]; (simp (disch := (first | omega | (simp only [lnA, List.length_map, List.length_range, true_and, and_true]; (try omega); done) | fail)) only [go_sem, Int.reduceEq, Int.reduceToNat, Nat.reduceAdd, Nat.reduceMul, Nat.reduceEqDiff, ↓reduceIte, true_and, and_true, and_self, List.drop_zero, List.take_length, Nat.le_refl, V.lit.injEq, Value.int.injEq, Value.bool.injEq]; try (first | omega | (simp; done) | (simp; omega)))) (by omega) (by omega)
    · rcases hq with h | rfl | rfl
      · exact absurd h hw
      · simp (maxSteps := 1000000) (disch := (first | omega | (simp only [lnA, List.length_map, List.length_range, true_and, and_true]; (try omega); done) | fail)) only [go_sem, hat, hdv, Int.reduceEq, Int.reduceToNat, Nat.reduceAdd, Nat.reduceMul, Nat.reduceEqDiff, ↓reduceIte]
        refine NextV_of (i + 1) [some 0, some 1] rfl (by simp (disch := (first | omega | (simp only [lnA, List.length_map, List.length_range, true_and, and_true]; (try omega); done) | fail)) only [go_sem, Int.reduceEq, Int.reduceToNat, Nat.reduceAdd, Nat.reduceMul, Nat.reduceEqDiff, ↓reduceIte, true_and, and_true, and_self, List.drop_zero, List.take_length, Nat.le_refl, V.lit.injEq, Value.int.injEq, Value.bool.injEq]; try (first | omega | (simp; done) | (simp; omega))) (by rw [hsu]; (simp (disch := (first | omega | (simp only [lnA, List.length_map, List.length_range, true_and, and_true]; (try omega); done) | fail)) only [go_sem, Int.reduceEq, Int.reduceToNat, Nat.reduceAdd, Nat.reduceMul, Nat.reduceEqDiff, ↓reduceIte, true_and, and_true, and_self, List.drop_zero, List.take_length, Nat.le_refl, V.lit.injEq, Value.int.injEq, Value.bool.injEq]; try (first | omega | (simp; done) | (simp; omega)))) (by omega) (by omega)
      · simp (maxSteps := 1000000) (disch := (first | omega | (simp only [lnA, List.length_map, List.length_range, true_and, and_true]; (try omega); done) | fail)) only [go_sem, hat, hdv, Int.reduceEq, Int.reduceToNat, Nat.reduceAdd, Nat.reduceMul, Nat.reduceEqDiff, ↓reduceIte]
        refine NextV_of (m + 1 + 1) [some 0, some 1] rfl (by simp (disch := (first | omega | (simp only [lnA, List.length_map, List.length_range, true_and, and_true]; (try omega); done) | fail)) only [go_sem, Int.reduceEq, Int.reduceToNat, Nat.reduceAdd, Nat.reduceMul, Nat.reduceEqDiff, ↓reduceIte, true_and, and_true, and_self, List.drop_zero, List.take_length, Nat.le_refl, V.lit.injEq, Value.int.injEq, Value.bool.injEq]; try (first | omega | (simp; done) | (simp; omega))) (by rw [hsu]; (simp (disch := (first | omega | (simp only [lnA, List.length_map, List.length_range, true_and, and_true]; (try omega); done) | fail)) only [go_sem, Int.reduceEq, Int.reduceToNat, Nat.reduceAdd, Nat.reduceMul, Nat.reduceEqDiff, ↓reduceIte, true_and, and_true, and_self, List.drop_zero, List.take_length, Nat.le_refl, V.lit.injEq, Value.int.injEq, Value.bool.injEq]; try (first | omega | (simp; done) | (simp; omega)))) (by omega) (by omega)
  · obtain rfl : i = 64 := by omega
    generalize sumW l 64 = S at *
    have w2 : IntKind.i64.wrap (S * 2 ^ s) = S * (D : Int) := by
      rw [hDi]
      refine wrap_i64 ?_
      have := Int.mul_le_mul q7 (show (D : Int) ≤ 8 by omega) (by omega) (by decide)
      have := Int.mul_nonneg q6 (show (0 : Int) ≤ (D : Int) by omega)
      omega
    have w3 : IntKind.i64.wrap (op * 2 ^ s) = op * (D : Int) := by
      rw [hDi]
      refine wrap_i64 ?_
      have := Int.mul_le_mul q3 (show (D : Int) ≤ 8 by omega) (by omega) (by decide)
      have := Int.mul_nonneg q2 (show (0 : Int) ≤ (D : Int) by omega)
      omega
    have hT := Int.mul_le_mul q7 (show (D : Int) ≤ 8 by omega) (by omega) (by decide)
    have hO := Int.mul_le_mul q3 (show (D : Int) ≤ 8 by omega) (by omega) (by decide)
    have hO2 := Int.mul_nonneg q2 (show (0 : Int) ≤ (D : Int) by omega)
    have hO3 := Int.mul_le_mul hO (show ((m : Int) + 1) ≤ 33 by omega) (by omega) (by omega)
    have hO4 := Int.mul_nonneg hO2 (show (0 : Int) ≤ (m : Int) + 1 by omega)
    generalize hOe : op * (D : Int) * ((m : Int) + 1) = O2 at *
    generalize S * (D : Int) = T at *
    have hz2 : ((64 : Nat) : Int) = 64 := rfl
    have hmk2 := rmake_fn (p := -1) (q := 3) (by decide) (by decide) (by decide) (by decide) (by decide)
    have hof := rof_fn (n := 1099511627777) (by decide) (by decide)
    have hn := newT_fn (L := []) (by decide)
    have hx1 : ((-1 : Int) : Rat) / ((3 : Int) : Rat) < 0 := by
      have := num_negR (a := -1) (b := 3) (by decide) (by decide)
      rw [← Rat.not_le, ← Rat.num_nonneg]; omega
    have hx2 : ((1099511627776 : Int) : Rat) < ((1099511627777 : Int) : Rat) := by
      rw [Rat.intCast_lt_intCast]; decide
    have he1 := dround_err (x := ((-1 : Int) : Rat) / ((3 : Int) : Rat)) (L := []) (p := 0) ((RS_div (k := 1) (l := 1) (by decide) (RS_one (by decide) (by decide)) (RS_one (by decide) (by decide))).mono (by decide)) (.inl hx1)
    have he2 := dround_err (x := ((1099511627777 : Int) : Rat)) (L := []) (p := 0) ((RS_one (by decide) (by decide)).mono (by decide)) (.inr hx2)
    generalize ((-1 : Int) : Rat) / ((3 : Int) : Rat) = y1 at *
    generalize ((1099511627777 : Int) : Rat) = y2 at *
    simp (maxSteps := 1000000) (disch := (first | omega | (simp only [lnA, List.length_map, List.length_range, true_and, and_true]; (try omega); done) | fail)) only [go_sem, hz2, w2, Int.reduceEq, Int.reduceToNat, Nat.reduceAdd, Nat.reduceMul, Nat.reduceEqDiff, ↓reduceIte]
    refine callV0 (hmk2) rfl rfl ?_
    simp (maxSteps := 1000000) (disch := (first | omega | (simp only [lnA, List.length_map, List.length_range, true_and, and_true]; (try omega); done) | fail)) only [go_sem, Int.reduceEq, Int.reduceToNat, Nat.reduceAdd, Nat.reduceMul, Nat.reduceEqDiff, ↓reduceIte]
    refine callW [] [] (hn) ?_
    simp (maxSteps := 1000000) (disch := (first | omega | (simp only [lnA, List.length_map, List.length_range, true_and, and_true]; (try omega); done) | fail)) only [go_sem, Int.reduceEq, Int.reduceToNat, Nat.reduceAdd, Nat.reduceMul, Nat.reduceEqDiff, ↓reduceIte]
    refine callW [some 3] [] (he1) ?_
    simp (maxSteps := 1000000) (disch := (first | omega | (simp only [lnA, List.length_map, List.length_range, true_and, and_true]; (try omega); done) | fail)) only [go_sem, Int.reduceEq, Int.reduceToNat, Nat.reduceAdd, Nat.reduceMul, Nat.reduceEqDiff, ↓reduceIte]
    refine callW [] [] (hn) ?_
    simp (maxSteps := 1000000) (disch := (first | omega | (simp only [lnA, List.length_map, List.length_range, true_and, and_true]; (try omega); done) | fail)) only [go_sem, Int.reduceEq, Int.reduceToNat, Nat.reduceAdd, Nat.reduceMul, Nat.reduceEqDiff, ↓reduceIte]
    refine callV0 (hof) rfl rfl ?_
    simp (maxSteps := 1000000) (disch := (first | omega | (simp only [lnA, List.length_map, List.length_range, true_and, and_true]; (try omega); done) | fail)) only [go_sem, Int.reduceEq, Int.reduceToNat, Nat.reduceAdd, Nat.reduceMul, Nat.reduceEqDiff, ↓reduceIte]
    refine callW [some 4] [] (he2) ?_
    simp (maxSteps := 1000000) (disch := (first | omega | (simp only [lnA, List.length_map, List.length_range, true_and, and_true]; (try omega); done) | fail)) only [go_sem, w3, hdv, hOe, beq_self_eq_true, Int.reduceEq, Int.reduceToNat, Nat.reduceAdd, Nat.reduceMul, Nat.reduceEqDiff, ↓reduceIte]
    exact endW [] hQ
end Go.Proofs.Ytfemchdaoihogaa
