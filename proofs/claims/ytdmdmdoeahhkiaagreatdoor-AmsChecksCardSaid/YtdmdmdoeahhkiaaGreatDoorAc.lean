import Derived.Test.YtdmdmdoeahhkiaaGreatDoorRi
import Derived.Test.YtdmdmdoeahhkiaaGreatDoorLb
import Derived.Test.YtdmdmdoeahhkiaaGreatDoorAa
import Derived.Test.YtdmdmdoeahhkiaaGreatDoorTi
namespace Go.Proofs.YtdmdmdoeahhkiaaGreatDoor
open Go.Eng Go.Vx
set_option linter.unusedSimpArgs false
set_option linter.unusedVariables false
set_option maxRecDepth 100000
theorem rxlog_fn {N : Nat} {n : Int} (h : max 0 (min n 1048576) = (N : Int)) : Fn1 Tryz.prog 23 [.lit (.int .i64 n)] [] (.lit (.int .i64 ((N * lgN (max 1 N) : Nat) : Int))) [] := by
  refine fn1N_of pl23 (by kernel_rfl) Tryz.call23 Tryz.func23 rfl (by kernel_rfl) rfl [.tmp 2] (by kernel_rfl) fun Q hQ => ?_
  have hN : N ≤ 1048576 := by omega
  have hl := lgN_le (n := max 1 N) (by omega) (by omega)
  have hm : N * lgN (max 1 N) ≤ 1048576 * (41 * 268435456) := Nat.mul_le_mul hN (by omega)
  have hc : (N : Int) * ((lgN (max 1 N) : Nat) : Int) = ((N * lgN (max 1 N) : Nat) : Int) := by simp
  refine runW ?_
  refine callV0 (within_fn (by decide)) rfl rfl ?_
  rw [h]
  by_cases h0 : N = 0
  · subst h0
    rw [Nat.zero_mul] at hQ
    refine runW ?_
    exact endW [] hQ
  · refine runW ?_
    refine callV0 (rlog2_fn (N := max 1 N) (n := (N : Int)) (by omega)) rfl rfl ?_
    simp (maxSteps := 1000000) (disch := (first | omega | (simp only [lnA, List.length_map, List.length_range, true_and, and_true]; (try omega); done) | fail)) only [go_sem, hc, Int.reduceEq, Int.reduceToNat, Nat.reduceAdd, Nat.reduceMul, Nat.reduceEqDiff, ↓reduceIte]
    exact endW [] hQ
def xl (N : Nat) : Int := ((N * lgN (max 1 N) : Nat) : Int)
theorem xl_le {N : Nat} (h : N ≤ 1048576) : 0 ≤ xl N ∧ xl N ≤ 11542724608000000 := by
  have hl := lgN_le (n := max 1 N) (by omega) (by omega)
  have hm : N * lgN (max 1 N) ≤ 1048576 * (41 * 268435456) := Nat.mul_le_mul h (by omega)
  unfold xl
  omega
theorem xlogx_fn {N : Nat} {n : Int} (h : max 0 (min n 1048576) = (N : Int)) : Fn1 Tryz.prog 73 [.lit (.int .i64 n)] [] (.lit (.int .i64 (xl N))) [] := xlog_fn h
theorem xlogn_fn {N : Nat} (h2 : N ≤ 1048576) : Fn1 Tryz.prog 73 [.lit (.int .i64 (N : Int))] [] (.lit (.int .i64 (xl N))) [] := xlogx_fn (by omega)
end Go.Proofs.YtdmdmdoeahhkiaaGreatDoor

namespace Go.Proofs.YtdmdmdoeahhkiaaGreatDoor
set_option linter.unusedSimpArgs false
set_option linter.unusedVariables false
def updL (L : List Bool) (N key : Nat) : List (Nat × Nat) → Nat → Option (List (Nat × Nat) × Nat)
  | [], p => some ([], p)
  | x :: xs, p => if (belowX L N p).2.1 = 0 then (updL L N key xs (belowX L N p).2.2.1).map fun r => (stp key (belowX L N p).1 x :: r.1, r.2) else none
theorem belowX_ok {L : List Bool} {n p : Nat} (hn : 0 < n) (h : (belowX L n p).2.1 = 0) : (belowX L n p).2.2.2 = false ∧ (belowX L n p).1 < n := by
  rcases belowX_cases (L := L) (p := p) hn with e | ⟨x, q, hx, e⟩
  · rw [e] at h; exact absurd h (show ¬ (8 : Int) = 0 by decide)
  · rw [e]; exact ⟨rfl, hx⟩
theorem belowX_err {L : List Bool} {n p : Nat} (hn : 0 < n) (h : (belowX L n p).2.1 ≠ 0) : belowX L n p = (0, 8, L.length, true) := by
  rcases belowX_cases (L := L) (p := p) hn with e | ⟨x, q, hx, e⟩
  · exact e
  · rw [e] at h; exact absurd rfl h
theorem updL_ok {L : List Bool} {N key : Nat} : ∀ {X : List (Nat × Nat)} {p : Nat} {X' : List (Nat × Nat)} {q : Nat}, p ≤ L.length → updL L N key X p = some (X', q) → p ≤ q ∧ q ≤ L.length ∧ X'.length = X.length := by
  intro X
  induction X with
  | nil =>
    intro p X' q hp h
    unfold updL at h
    cases h
    exact ⟨Nat.le_refl _, hp, rfl⟩
  | cons x xs ih =>
    intro p X' q hp h
    unfold updL at h
    split at h
    · rename_i h0
      obtain ⟨e1, e2⟩ := belowX_end (L := L) (n := N) hp
      cases hr : updL L N key xs (belowX L N p).2.2.1 with
      | none => rw [hr] at h; cases h
      | some r =>
        obtain ⟨r1, r2⟩ := r
        rw [hr] at h
        cases h
        obtain ⟨a, b, c⟩ := ih e2 hr
        exact ⟨by omega, b, by simp [c]⟩
    · cases h
theorem updL_all {L : List Bool} {N key : Nat} (hN : 0 < N) {A B : Nat × Nat → Prop} (hAB : ∀ x a, a < N → A x → B (stp key a x)) : ∀ {X : List (Nat × Nat)} {p : Nat} {X' : List (Nat × Nat)} {q : Nat}, (∀ x ∈ X, A x) → updL L N key X p = some (X', q) → ∀ x ∈ X', B x := by
  intro X
  induction X with
  | nil =>
    intro p X' q _ h
    unfold updL at h
    cases h
    exact fun x hx => by cases hx
  | cons x xs ih =>
    intro p X' q hX h
    unfold updL at h
    split at h
    · rename_i h0
      cases hr : updL L N key xs (belowX L N p).2.2.1 with
      | none => rw [hr] at h; cases h
      | some r =>
        obtain ⟨r1, r2⟩ := r
        rw [hr] at h
        cases h
        intro y hy
        rcases List.mem_cons.1 hy with e | e
        · rw [e]; exact hAB x _ (belowX_ok hN h0).2 (hX x (by simp))
        · exact ih (fun z hz => hX z (by simp [hz])) hr y e
    · cases h
def alone (key N : Nat) (x : Nat × Nat) : Prop := x.1 = key ∧ 1 ≤ x.2 ∧ x.2 ≤ N
theorem updL_le {L : List Bool} {N key B : Nat} {X X' : List (Nat × Nat)} {p q : Nat} (hk : key < B) (hX : ∀ x ∈ X, x.1 < B ∧ x.2 ≤ N) (h : updL L (N + 1) key X p = some (X', q)) : ∀ x ∈ X', x.1 < B ∧ x.2 ≤ N + 1 := by
  refine updL_all (Nat.succ_pos N) (A := fun x => x.1 < B ∧ x.2 ≤ N) (fun x a ha hx => ?_) hX h
  unfold stp
  split
  · exact ⟨hk, by show 1 ≤ N + 1; omega⟩
  · split
    · exact ⟨hx.1, by show x.2 + 1 ≤ N + 1; omega⟩
    · exact ⟨hx.1, by omega⟩
end Go.Proofs.YtdmdmdoeahhkiaaGreatDoor
