import Derived.Test.YtakajkgondadiaaFb
import Derived.Test.YtakajkgondadiaaTw
/-! FlipPrefix. -/
namespace Go.Proofs.Ytakajkgondadiaa
open Go.Eng Go.Vx
set_option linter.unusedSimpArgs false
set_option linter.unusedVariables false
set_option maxRecDepth 100000
theorem getD_pre {L M : List Bool} {p q : Nat} (h : M.take q = L.take q) (hp : p < q) : M.getD p false = L.getD p false := by
  have e := congrArg (fun l => l[p]?) h
  simp only [List.getElem?_take, if_pos hp] at e
  rw [List.getD_eq_getElem?_getD, List.getD_eq_getElem?_getD, e]
theorem take_of_takeF {L M : List Bool} {a b : Nat} (h : M.take b = L.take b) (hab : a ≤ b) : M.take a = L.take a := by
  have e := congrArg (List.take a) h
  rwa [List.take_take, List.take_take, Nat.min_eq_left hab] at e
theorem ratR_pre {L M : List Bool} {D : Nat} : ∀ f f' r p b q, p ≤ L.length → ratR L D f r p = (b, 0, q, false) → M.take q = L.take q → q ≤ M.length → M.length < f' + p → ratR M D f' r p = (b, 0, q, false)
  | 0, _, _, _, _, _, _, h, _, _, _ => by simp [ratR] at h
  | f + 1, f', r, p, b, q, hp, h, ht, hq, hf => by
    have hc := ratR_cases (L := L) (D := D) (f + 1) r p hp
    have hpq : p < q := by
      rcases hc with e | ⟨b', q', e, h1, h2⟩
      · rw [h] at e; simp at e
      · rw [h] at e
        obtain ⟨-, rfl⟩ : b = b' ∧ q = q' := by simpa using e
        exact h1
    obtain ⟨g, rfl⟩ : ∃ g, f' = g + 1 := ⟨f' - 1, by omega⟩
    rw [ratR_succ] at h
    rw [ratR_succ, if_pos (by omega), getD_pre ht hpq]
    by_cases hl : p < L.length
    · rw [if_pos hl] at h
      by_cases hcc : L.getD p false = decide (D ≤ r + r) ∧ (if D ≤ r + r then r + r - D else r + r) ≠ 0
      · rw [if_pos hcc] at h ⊢
        exact ratR_pre f g _ (p + 1) b q hl h ht hq (by omega)
      · rw [if_neg hcc] at h ⊢
        exact h
    · rw [if_neg hl] at h
      simp at h
theorem ratR_few {L M : List Bool} {D : Nat} : ∀ f f' r p b q, ratR L D f r p = (b, 0, q, false) → M = L.take M.length → M.length < q → ratR M D f' r p = (false, 8, M.length, true)
  | _, 0, _, _, _, _, _, _, _ => rfl
  | 0, _ + 1, _, _, _, _, h, _, _ => by simp [ratR] at h
  | f + 1, f' + 1, r, p, b, q, h, ht, hq => by
    rw [ratR_succ] at h ⊢
    by_cases hM : p < M.length
    · have hML : M.length ≤ L.length := by rw [ht, List.length_take]; omega
      rw [if_pos hM]
      rw [if_pos (by omega)] at h
      rw [getD_pre (L := L) (q := M.length) (by rw [List.take_length]; exact ht) hM]
      by_cases hcc : L.getD p false = decide (D ≤ r + r) ∧ (if D ≤ r + r then r + r - D else r + r) ≠ 0
      · rw [if_pos hcc] at h ⊢
        exact ratR_few f f' _ (p + 1) b q h ht hq
      · rw [if_neg hcc] at h
        obtain ⟨-, rfl⟩ : _ ∧ p + 1 = q := by simpa using h
        omega
    · rw [if_neg hM]
theorem ratX_pre {L M : List Bool} {P D p q : Nat} {b : Bool} (hp : p ≤ L.length) (hg : goodB P D) (h : ratX L P D p = (b, 0, q, false)) (ht : M.take q = L.take q) (hq : q ≤ M.length) : ratX M P D p = (b, 0, q, false) := by
  unfold ratX at h ⊢
  rw [if_neg hg] at h ⊢
  by_cases h1 : P = 0
  · rw [if_pos h1] at h ⊢; exact h
  · rw [if_neg h1] at h ⊢
    by_cases h2 : P = D
    · rw [if_pos h2] at h ⊢; exact h
    · rw [if_neg h2] at h ⊢
      have hpq : p ≤ q := by
        rcases ratR_cases (L := L) (D := D) (L.length + 1 - p) P p hp with e | ⟨b', q', e, h1, h2⟩
        · rw [h] at e; simp at e
        · rw [h] at e
          obtain ⟨-, rfl⟩ : b = b' ∧ q = q' := by simpa using e
          omega
      exact ratR_pre _ _ P p b q hp h ht hq (by omega)
theorem ratX_few {L M : List Bool} {P D p q : Nat} {b : Bool} (hg : goodB P D) (hp : p ≤ M.length) (h : ratX L P D p = (b, 0, q, false)) (ht : M = L.take M.length) (hq : M.length < q) : ratX M P D p = (false, 8, M.length, true) := by
  unfold ratX at h ⊢
  rw [if_neg hg] at h ⊢
  by_cases h1 : P = 0
  · rw [if_pos h1] at h
    obtain ⟨-, rfl⟩ : _ ∧ p = q := by simpa using h
    omega
  · rw [if_neg h1] at h ⊢
    by_cases h2 : P = D
    · rw [if_pos h2] at h
      obtain ⟨-, rfl⟩ : _ ∧ p = q := by simpa using h
      omega
    · rw [if_neg h2] at h ⊢
      exact ratR_few _ _ P p b q h ht hq
theorem powR_cases {L : List Bool} {P D : Nat} (hg : goodB P D) : ∀ k p, p ≤ L.length → powR L P D k p = (false, 8, L.length, true) ∨ ∃ b q, powR L P D k p = (b, 0, q, false) ∧ p ≤ q ∧ q ≤ L.length
  | 0, p, hp => .inr ⟨true, p, rfl, Nat.le_refl _, hp⟩
  | k + 1, p, hp => by
    rw [powR_succ]
    rcases ratX_cases (L := L) (p := p) hg hp with e | ⟨b, q, e, h1, h2⟩
    · rw [e]; exact .inl rfl
    · rw [e]
      cases b with
      | false => exact .inr ⟨false, q, rfl, h1, h2⟩
      | true =>
        rcases powR_cases hg k q h2 with e' | ⟨b', q', e', h1', h2'⟩
        · exact .inl e'
        · exact .inr ⟨b', q', e', by omega, h2'⟩
theorem powR_pre {L M : List Bool} {P D : Nat} (hg : goodB P D) : ∀ k p b q, p ≤ L.length → powR L P D k p = (b, 0, q, false) → M.take q = L.take q → q ≤ M.length → powR M P D k p = (b, 0, q, false)
  | 0, _, _, _, _, h, _, _ => h
  | k + 1, p, b, q, hp, h, ht, hq => by
    rw [powR_succ] at h ⊢
    rcases ratX_cases (L := L) (p := p) hg hp with e | ⟨b', q', e, h1, h2⟩
    · rw [e] at h; simp at h
    · rw [e] at h
      cases b' with
      | false =>
        have h' : (false, (0 : Int), q', false) = (b, 0, q, false) := h
        obtain ⟨rfl, rfl⟩ : false = b ∧ q' = q := by simpa using h'
        rw [ratX_pre hp hg e ht hq]
        rfl
      | true =>
        have h' : powR L P D k q' = (b, 0, q, false) := h
        have hqq : q' ≤ q := by
          rcases powR_cases hg k q' h2 with e' | ⟨b2, q2, e', h1', h2'⟩
          · rw [h'] at e'; simp at e'
          · rw [h'] at e'
            obtain ⟨-, rfl⟩ : b = b2 ∧ q = q2 := by simpa using e'
            exact h1'
        rw [ratX_pre hp hg e (take_of_takeF ht hqq) (by omega)]
        exact powR_pre hg k q' b q h2 h' ht hq
theorem powR_few {L M : List Bool} {P D : Nat} (hg : goodB P D) : ∀ k p b q, p ≤ M.length → powR L P D k p = (b, 0, q, false) → M = L.take M.length → M.length < q → powR M P D k p = (false, 8, M.length, true)
  | 0, p, b, q, hp, h, _, hq => by
    rw [powR_zero] at h
    obtain ⟨-, rfl⟩ : _ ∧ p = q := by simpa using h
    omega
  | k + 1, p, b, q, hp, h, ht, hq => by
    have hML : M.length ≤ L.length := by rw [ht, List.length_take]; omega
    rw [powR_succ] at h ⊢
    rcases ratX_cases (L := L) (p := p) hg (by omega) with e | ⟨b', q', e, h1, h2⟩
    · rw [e] at h; simp at h
    · rw [e] at h
      by_cases hm : M.length < q'
      · rw [ratX_few hg hp e ht hm]
        rfl
      · cases b' with
        | false =>
          have h' : (false, (0 : Int), q', false) = (b, 0, q, false) := h
          obtain ⟨rfl, rfl⟩ : false = b ∧ q' = q := by simpa using h'
          omega
        | true =>
          have h' : powR L P D k q' = (b, 0, q, false) := h
          rw [ratX_pre (by omega) hg e (take_of_takeF (b := M.length) (by rw [List.take_length]; exact ht) (by omega)) (by omega)]
          exact powR_few hg k q' b q (by omega) h' ht hq
theorem fplay_fn {L : List Bool} {P D K : Nat} (hL : L.length ≤ 1048576) (hP : P ≤ 4294967296) (hD : D ≤ 4294967296) (hK : K ≤ 1000) : Fn1 Try.prog 17 [.row 1 (L.map be), .ref 0 0 0 0, .ref 1 0 0 0, .ref 2 0 0 0] [some (.cells [.lit (.int .i64 (P : Int))]), some (.cells [.lit (.int .i64 (D : Int))]), some (.cells [.lit (.int .i64 (K : Int))])]
    (.tup [.lit (.bool (powX L P D K 0).1), .lit (.int .i64 (powX L P D K 0).2.1), .lit (.int .i64 ((powX L P D K 0).2.2.1 : Int))]) [some (.cells [.lit (.int .i64 (P : Int))]), some (.cells [.lit (.int .i64 (D : Int))]), some (.cells [.lit (.int .i64 (K : Int))])] := by
  refine fn1_of pl17 (by kernel_rfl) Try.call17 Try.func17 rfl (by kernel_rfl) rfl [.tmp 5, .tmp 6, .tmp 7] (by kernel_rfl) fun Q hQ => ?_
  have w1 : (wg P).length ≤ 500000 := Nat.le_trans (wg_one (by omega)) (by decide)
  have w3 : (wg D).length ≤ 500000 := Nat.le_trans (wg_one (by omega)) (by decide)
  have hr := power_fn (L := L) (P := P) (D := D) (p := 0) (K := K) (k := (K : Int)) hL (by omega) w1 w3 (by omega) (by omega)
  generalize powX L P D K 0 = r at *
  simp (maxSteps := 1000000) (disch := (first | omega | (simp only [List.length_append, List.length_set, List.length_cons, List.length_nil, List.length_replicate, List.length_take, List.length_drop, List.length_map, List.length_range, true_and, and_true]; (try omega); done) | fail)) only [go_sem, Int.reduceEq, Int.reduceToNat, Nat.reduceAdd, Nat.reduceMul, Nat.reduceEqDiff, ↓reduceIte]
  refine callW [] [] (newT_fn (L := L) hL) ?_
  simp (maxSteps := 1000000) (disch := (first | omega | (simp only [List.length_append, List.length_set, List.length_cons, List.length_nil, List.length_replicate, List.length_take, List.length_drop, List.length_map, List.length_range, true_and, and_true]; (try omega); done) | fail)) only [go_sem, Int.reduceEq, Int.reduceToNat, Nat.reduceAdd, Nat.reduceMul, Nat.reduceEqDiff, ↓reduceIte]
  refine callW [] [4] (of1_fn (x := P) (by omega)) ?_
  simp (maxSteps := 1000000) (disch := (first | omega | (simp only [List.length_append, List.length_set, List.length_cons, List.length_nil, List.length_replicate, List.length_take, List.length_drop, List.length_map, List.length_range, true_and, and_true]; (try omega); done) | fail)) only [go_sem, Int.reduceEq, Int.reduceToNat, Nat.reduceAdd, Nat.reduceMul, Nat.reduceEqDiff, ↓reduceIte]
  refine callW [] [5] (of1_fn (x := D) (by omega)) ?_
  simp (maxSteps := 1000000) (disch := (first | omega | (simp only [List.length_append, List.length_set, List.length_cons, List.length_nil, List.length_replicate, List.length_take, List.length_drop, List.length_map, List.length_range, true_and, and_true]; (try omega); done) | fail)) only [go_sem, Int.reduceEq, Int.reduceToNat, Nat.reduceAdd, Nat.reduceMul, Nat.reduceEqDiff, ↓reduceIte]
  refine callW [some 3] [] (hr) ?_
  simp (maxSteps := 1000000) (disch := (first | omega | (simp only [List.length_append, List.length_set, List.length_cons, List.length_nil, List.length_replicate, List.length_take, List.length_drop, List.length_map, List.length_range, true_and, and_true]; (try omega); done) | fail)) only [go_sem, Int.reduceEq, Int.reduceToNat, Nat.reduceAdd, Nat.reduceMul, Nat.reduceEqDiff, ↓reduceIte]
  refine callT (readT_fn (L := L) (p := r.2.2.1) (d := r.2.2.2)) ?_
  simp (maxSteps := 1000000) (disch := (first | omega | (simp only [List.length_append, List.length_set, List.length_cons, List.length_nil, List.length_replicate, List.length_take, List.length_drop, List.length_map, List.length_range, true_and, and_true]; (try omega); done) | fail)) only [go_sem, Int.reduceEq, Int.reduceToNat, Nat.reduceAdd, Nat.reduceMul, Nat.reduceEqDiff, ↓reduceIte]
  exact endW [some 0, some 1, some 2] hQ
end Go.Proofs.Ytakajkgondadiaa
