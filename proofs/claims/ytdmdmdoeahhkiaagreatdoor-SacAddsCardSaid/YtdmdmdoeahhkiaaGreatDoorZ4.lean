import Derived.Test.YtdmdmdoeahhkiaaGreatDoorZ3
import Derived.Test.YtdmdmdoeahhkiaaGreatDoorFb
import Derived.Test.YtdmdmdoeahhkiaaGreatDoorE8
namespace Go.Proofs.YtdmdmdoeahhkiaaGreatDoor
open Go.Eng Go.Vx
set_option linter.unusedSimpArgs false
set_option linter.unusedVariables false
set_option maxRecDepth 100000
def out10 (p : Nat) (r : Bool × Int × Nat × Bool) : V := .agg [.lit (.bool r.1), .lit (.int .i64 ((r.2.2.1 : Int) - (p : Int))), .lit (.int .i64 r.2.1)]
attribute [go_sem] out10
theorem two_div {r D : Nat} (h : r < D) : (2 * (r : Int)) / (D : Int) = (if D ≤ r + r then 1 else 0 : Nat) ∧ (2 * (r : Int)) % (D : Int) = ((if D ≤ r + r then r + r - D else r + r : Nat) : Int) := by
  split
  · refine (Int.ediv_emod_unique (by omega)).2 ⟨?_, by omega, by omega⟩
    simp; omega
  · refine (Int.ediv_emod_unique (by omega)).2 ⟨?_, by omega, by omega⟩
    simp; omega
theorem refRatio_fn {L : List Bool} {p P D : Nat} (hD : D ≠ 0) (hPD : P ≤ D) (hD2 : D ≤ 4294967296) (hp : p ≤ L.length) (hL : L.length ≤ 1048576) : Fn1 Tryz.prog 182 [.row 1 (L.map be), .lit (.int .i64 (p : Int)), .lit (.int .i64 (P : Int)), .lit (.int .i64 (D : Int))] [] (out10 p (ratX L P D p)) [] := by
  refine fn1N_of pl182 (by kernel_rfl) Tryz.call182 Tryz.func182 rfl (by kernel_rfl) rfl [.cell 8 249] (by kernel_rfl) fun Q hQ => ?_
  unfold ratX at hQ
  rw [if_neg (by omega)] at hQ
  by_cases h1 : P = 0
  · rw [if_pos h1] at hQ
    have hne : decide ((P : Int) = (D : Int)) = false := decide_eq_false (by omega)
    simp (maxSteps := 1000000) (disch := (first | omega | (simp only [lnA, List.length_map, List.length_range, true_and, and_true]; (try omega); done) | fail)) only [go_sem, hne, Int.reduceEq, Int.reduceToNat, Nat.reduceAdd, Nat.reduceMul, Nat.reduceEqDiff, ↓reduceIte]
    exact endW [] hQ
  · rw [if_neg h1] at hQ
    by_cases h2 : P = D
    · rw [if_pos h2] at hQ
      refine runW ?_
      exact endW [] hQ
    · rw [if_neg h2] at hQ
      refine runW ?_
      refine loopW (X := Nat × Nat) (st := fun z => ([(0, .row 1 (L.map be)), (1, .lit (.int .i64 (p : Int))), (2, .lit (.int .i64 (z.2 : Int))), (3, .lit (.int .i64 (D : Int))), (8, .ref 0 0 0 0), (9, .lit (.int .i64 (z.1 : Int)))], [some (.cells [.lit (.bool false), .lit (.int .i64 0), .lit (.int .i64 0)])]))
        (inv := fun z => p + z.1 ≤ L.length ∧ z.2 < D ∧ ratR L D (L.length + 1 - p) P p = ratR L D (L.length + 1 - (p + z.1)) z.2 (p + z.1)) (m := fun z => L.length - z.1) (0, P) [some 0] ⟨by simpa using hp, by simp only; omega, rfl⟩ ?_
      rintro ⟨i, r⟩ ⟨hi, hr, hv⟩
      simp only at hi hr hv ⊢
      obtain ⟨f, hf⟩ : ∃ f, L.length + 1 - (p + i) = f + 1 := ⟨L.length - (p + i), by omega⟩
      rw [hf, ratR_succ] at hv
      by_cases hl : p + i < L.length
      · rw [if_pos hl] at hv
        have hx : ((p : Int) + (i : Int)).toNat = p + i := by omega
        obtain ⟨d1, d2⟩ := two_div hr
        generalize hb : L.getD (p + i) false = b at *
        by_cases hd : D ≤ r + r
        · rw [if_pos hd, decide_eq_true hd] at hv
          rw [if_pos hd] at d1 d2
          cases b
          · rw [if_neg (by simp)] at hv
            rw [hv] at hQ
            simp (maxSteps := 1000000) (disch := (first | omega | (simp only [lnA, List.length_map, List.length_range, true_and, and_true]; (try omega); done) | fail)) only [go_sem, hx, hb, d1, d2, Int.reduceEq, Int.reduceToNat, Nat.reduceAdd, Nat.reduceMul, Nat.reduceEqDiff, ↓reduceIte]
            exact endW [] hQ
          · by_cases hz : r + r - D = 0
            · rw [if_neg (fun h => h.2 hz)] at hv
              rw [hv] at hQ
              simp (maxSteps := 1000000) (disch := (first | omega | (simp only [lnA, List.length_map, List.length_range, true_and, and_true]; (try omega); done) | fail)) only [go_sem, hx, hb, d1, d2, Int.reduceEq, Int.reduceToNat, Nat.reduceAdd, Nat.reduceMul, Nat.reduceEqDiff, ↓reduceIte]
              exact endW [] hQ
            · rw [if_pos ⟨rfl, hz⟩] at hv
              simp (maxSteps := 1000000) (disch := (first | omega | (simp only [lnA, List.length_map, List.length_range, true_and, and_true]; (try omega); done) | fail)) only [go_sem, hx, hb, d1, d2, Int.reduceEq, Int.reduceToNat, Nat.reduceAdd, Nat.reduceMul, Nat.reduceEqDiff, ↓reduceIte]
              refine nextW (i + 1, r + r - D) [some 0] ⟨by simp only; omega, by simp only; omega, ?_⟩ (by simp only; omega)
              simp only
              rw [hv, show L.length + 1 - (p + (i + 1)) = f by omega, Nat.add_assoc]
        · rw [if_neg hd, decide_eq_false hd] at hv
          rw [if_neg hd] at d1 d2
          cases b
          · by_cases hz : r + r = 0
            · rw [if_neg (fun h => h.2 hz)] at hv
              rw [hv] at hQ
              simp (maxSteps := 1000000) (disch := (first | omega | (simp only [lnA, List.length_map, List.length_range, true_and, and_true]; (try omega); done) | fail)) only [go_sem, hx, hb, d1, d2, Int.reduceEq, Int.reduceToNat, Nat.reduceAdd, Nat.reduceMul, Nat.reduceEqDiff, ↓reduceIte]
              exact endW [] hQ
            · rw [if_pos ⟨rfl, hz⟩] at hv
              simp (maxSteps := 1000000) (disch := (first | omega | (simp only [lnA, List.length_map, List.length_range, true_and, and_true]; (try omega); done) | fail)) only [go_sem, hx, hb, d1, d2, Int.reduceEq, Int.reduceToNat, Nat.reduceAdd, Nat.reduceMul, Nat.reduceEqDiff, ↓reduceIte]
              refine nextW (i + 1, r + r) [some 0] ⟨by simp only; omega, by simp only; omega, ?_⟩ (by simp only; omega)
              simp only
              rw [hv, show L.length + 1 - (p + (i + 1)) = f by omega, Nat.add_assoc]
          · rw [if_neg (by simp)] at hv
            rw [hv] at hQ
            simp (maxSteps := 1000000) (disch := (first | omega | (simp only [lnA, List.length_map, List.length_range, true_and, and_true]; (try omega); done) | fail)) only [go_sem, hx, hb, d1, d2, Int.reduceEq, Int.reduceToNat, Nat.reduceAdd, Nat.reduceMul, Nat.reduceEqDiff, ↓reduceIte]
            exact endW [] hQ
      · rw [if_neg hl] at hv
        rw [hv] at hQ
        refine runW ?_
        exact endW [] hQ
end Go.Proofs.YtdmdmdoeahhkiaaGreatDoor

namespace Go.Proofs.YtdmdmdoeahhkiaaGreatDoor
open Go.Eng Go.Vx
set_option linter.unusedSimpArgs false
set_option linter.unusedVariables false
set_option maxRecDepth 100000
def okR (L : List Bool) (p : Nat) (r : Bool × Int × Nat × Bool) : Prop := r = (false, 8, L.length, true) ∨ ∃ b e q, r = (b, e, q, false) ∧ e ≠ 8 ∧ p ≤ q ∧ q ≤ L.length
theorem okR_rat {L : List Bool} {P D p : Nat} (hp : p ≤ L.length) : okR L p (ratX L P D p) := by
  by_cases h : D = 0 ∨ D < P
  · refine .inr ⟨false, 2, p, ?_, by decide, Nat.le_refl _, hp⟩
    unfold ratX; rw [if_pos h]
  · rcases ratX_cases (L := L) (p := p) h hp with e | ⟨b, q, e, h1, h2⟩
    · exact .inl e
    · exact .inr ⟨b, 0, q, e, by decide, h1, h2⟩
end Go.Proofs.YtdmdmdoeahhkiaaGreatDoor
