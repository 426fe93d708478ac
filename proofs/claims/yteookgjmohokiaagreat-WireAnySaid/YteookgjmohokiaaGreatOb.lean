import Derived.Test.YteookgjmohokiaaGreatLb
namespace Go.Proofs.YteookgjmohokiaaGreat
open Go.Eng
set_option linter.unusedSimpArgs false
set_option linter.unusedVariables false
def smB (X : List (Nat × Nat)) : List Bool := X.flatMap fun x => numBits x.1 61 ++ gammaB x.2
def amsB (X : List (Nat × Nat)) (N : Nat) : List Bool := varB N ++ if N = 0 then [] else smB X
theorem smB_cons (x : Nat × Nat) (X : List (Nat × Nat)) : smB (x :: X) = numBits x.1 61 ++ gammaB x.2 ++ smB X := by simp [smB]
theorem smB_app (X Y : List (Nat × Nat)) : smB (X ++ Y) = smB X ++ smB Y := by simp [smB]
def rdA (L : List Bool) (T : Nat) : Nat → Nat → Option (List (Nat × Nat)) × Nat × Int
  | 0, p => (some [], p, 0)
  | c + 1, p =>
    if p + 61 ≤ L.length then
      (if (gX L (p + 61)).2.2 = 0 then
        (if 2305843009213693951 ≤ numOf ((L.drop p).take 61) ∨ T < (gX L (p + 61)).1 then (none, (gX L (p + 61)).2.1, 4)
         else ((rdA L T c (gX L (p + 61)).2.1).1.map (fun X => (numOf ((L.drop p).take 61), (gX L (p + 61)).1) :: X), (rdA L T c (gX L (p + 61)).2.1).2))
       else (none, (gX L (p + 61)).2.1, (gX L (p + 61)).2.2))
    else (none, p, 5)
theorem rdA_zero {L : List Bool} {T p : Nat} : rdA L T 0 p = (some [], p, 0) := rfl
theorem rdA_succ {L : List Bool} {T c p : Nat} : rdA L T (c + 1) p =
    if p + 61 ≤ L.length then
      (if (gX L (p + 61)).2.2 = 0 then
        (if 2305843009213693951 ≤ numOf ((L.drop p).take 61) ∨ T < (gX L (p + 61)).1 then (none, (gX L (p + 61)).2.1, 4)
         else ((rdA L T c (gX L (p + 61)).2.1).1.map (fun X => (numOf ((L.drop p).take 61), (gX L (p + 61)).1) :: X), (rdA L T c (gX L (p + 61)).2.1).2))
       else (none, (gX L (p + 61)).2.1, (gX L (p + 61)).2.2))
    else (none, p, 5) := rfl
def arR (L : List Bool) (C p : Nat) : Option (List (Nat × Nat) × Nat) × Nat × Int :=
  if (vX L p).2.2 = 0 then
    (if 1048576 < (vX L p).1 then (none, (vX L p).2.1, 4)
     else if (vX L p).1 = 0 then (some (List.replicate C (0, 0), 0), (vX L p).2.1, 0)
     else ((rdA L (vX L p).1 C (vX L p).2.1).1.map (fun X => (X, (vX L p).1)), (rdA L (vX L p).1 C (vX L p).2.1).2))
  else (none, (vX L p).2.1, (vX L p).2.2)
theorem rdA_le {L : List Bool} {T : Nat} : ∀ {c p : Nat}, p ≤ L.length → (rdA L T c p).2.1 ≤ L.length
  | 0, p, h => h
  | c + 1, p, h => by
    unfold rdA
    split
    · rename_i h1
      have h2 := gX_le h1
      split
      · split
        · exact h2
        · exact rdA_le (c := c) h2
      · exact h2
    · exact h
theorem rdA_way {L : List Bool} {T : Nat} : ∀ {c p : Nat} {X : List (Nat × Nat)}, p ≤ L.length → (rdA L T c p).1 = some X →
    L.drop p = smB X ++ L.drop (rdA L T c p).2.1 ∧ (rdA L T c p).2.2 = 0 ∧ X.length = c ∧ (∀ x ∈ X, x.1 < 2305843009213693951 ∧ 1 ≤ x.2 ∧ x.2 ≤ T) ∧ p ≤ (rdA L T c p).2.1
  | 0, p, X, hp, h => by
    injection h with h
    subst h
    exact ⟨rfl, rfl, rfl, fun x hx => (by cases hx), Nat.le_refl _⟩
  | c + 1, p, X, hp, h => by
    by_cases h1 : p + 61 ≤ L.length
    · by_cases h2 : (gX L (p + 61)).2.2 = 0
      · by_cases h3 : 2305843009213693951 ≤ numOf ((L.drop p).take 61) ∨ T < (gX L (p + 61)).1
        · unfold rdA at h
          rw [if_pos h1, if_pos h2, if_pos h3] at h
          cases h
        · have e : rdA L T (c + 1) p = ((rdA L T c (gX L (p + 61)).2.1).1.map (fun X => (numOf ((L.drop p).take 61), (gX L (p + 61)).1) :: X), (rdA L T c (gX L (p + 61)).2.1).2) := by
            conv => lhs; unfold rdA
            rw [if_pos h1, if_pos h2, if_neg h3]
          rw [e] at h ⊢
          have hg := gX_way h2
          have hpos := gX_pos h2
          cases hr : (rdA L T c (gX L (p + 61)).2.1).1 with
          | none => rw [hr] at h; cases h
          | some Y =>
            rw [hr] at h
            injection h with h
            subst h
            obtain ⟨k1, k2, k3, k4, k5⟩ := rdA_way (c := c) hg.2.1 hr
            dsimp only
            refine ⟨?_, k2, by rw [List.length_cons, k3], fun x hx => ?_, by omega⟩
            · rw [smB_cons, numBits_of h1, List.append_assoc, List.append_assoc, ← k1, ← hg.1, ← cut_take]
            · rcases List.mem_cons.1 hx with rfl | hx
              · exact ⟨by dsimp only; omega, by dsimp only; omega, by dsimp only; omega⟩
              · exact k4 x hx
      · unfold rdA at h
        rw [if_pos h1, if_neg h2] at h
        cases h
    · unfold rdA at h
      rw [if_neg h1] at h
      cases h
theorem rdA_none {L : List Bool} {T : Nat} : ∀ {c p : Nat}, (rdA L T c p).1 = none → (rdA L T c p).2.2 = 4 ∨ (rdA L T c p).2.2 = 5
  | 0, p, h => by cases h
  | c + 1, p, h => by
    have hg := (gR_eq L (p + 61)).2.2.2
    unfold rdA at *
    split at h
    · rename_i h1
      rw [if_pos h1]
      split at h
      · rename_i h2
        rw [if_pos h2]
        split at h
        · rename_i h3
          rw [if_pos h3]
          exact .inl rfl
        · rename_i h3
          rw [if_neg h3]
          exact rdA_none (c := c) (Option.map_eq_none_iff.1 h)
      · rename_i h2
        rw [if_neg h2]
        dsimp only
        omega
    · rename_i h1
      rw [if_neg h1]
      exact .inr rfl
theorem arR_le {L : List Bool} {C p : Nat} (h : p ≤ L.length) : (arR L C p).2.1 ≤ L.length := by
  have h1 : (vX L p).2.1 ≤ L.length := vXj_le _ _ _ _ h
  unfold arR
  split
  · split
    · exact h1
    · split
      · exact h1
      · exact rdA_le h1
  · exact h1
theorem arR_none {L : List Bool} {C p : Nat} (h : (arR L C p).1 = none) : (arR L C p).2.2 = 4 ∨ (arR L C p).2.2 = 5 := by
  have hv : (vX L p).2.2 = 0 ∨ (vX L p).2.2 = 4 ∨ (vX L p).2.2 = 5 := vXj_err _ _ _ _
  unfold arR at *
  split at h
  · rename_i h1
    rw [if_pos h1]
    split at h
    · rename_i h2
      rw [if_pos h2]
      exact .inl rfl
    · rename_i h2
      rw [if_neg h2]
      split at h
      · cases h
      · rename_i h3
        rw [if_neg h3]
        exact rdA_none (Option.map_eq_none_iff.1 h)
  · rename_i h1
    rw [if_neg h1]
    dsimp only
    omega
def okA (C : Nat) (X : List (Nat × Nat)) (N : Nat) : Prop := X.length = C ∧ N ≤ 1048576 ∧ (∀ x ∈ X, x.1 < 2305843009213693951 ∧ x.2 ≤ N) ∧ ((0 < N ∧ ∀ x ∈ X, 1 ≤ x.2) ∨ (N = 0 ∧ ∀ x ∈ X, x = (0, 0)))
theorem arR_way {L : List Bool} {C p : Nat} {X : List (Nat × Nat)} {N : Nat} (hp : p ≤ L.length) (h : (arR L C p).1 = some (X, N)) :
    L.drop p = amsB X N ++ L.drop (arR L C p).2.1 ∧ (arR L C p).2.2 = 0 ∧ okA C X N ∧ p ≤ (arR L C p).2.1 := by
  by_cases h1 : (vX L p).2.2 = 0
  · obtain ⟨k1, k2, k3⟩ := vX_way h1
    by_cases h2 : 1048576 < (vX L p).1
    · unfold arR at h
      rw [if_pos h1, if_pos h2] at h
      cases h
    · by_cases h3 : (vX L p).1 = 0
      · have e : arR L C p = (some (List.replicate C (0, 0), 0), (vX L p).2.1, 0) := by unfold arR; rw [if_pos h1, if_neg h2, if_pos h3]
        rw [e] at h ⊢
        injection h with h
        injection h with ha hb
        subst ha hb
        rw [h3] at k1
        refine ⟨?_, rfl, ⟨List.length_replicate, by decide, fun x hx => ?_, .inr ⟨rfl, fun x hx => List.eq_of_mem_replicate hx⟩⟩, k3⟩
        · unfold amsB
          rw [if_pos rfl, List.append_nil]
          exact k1
        · rw [List.eq_of_mem_replicate hx]
          exact ⟨by decide, Nat.le_refl _⟩
      · have e : arR L C p = ((rdA L (vX L p).1 C (vX L p).2.1).1.map (fun X => (X, (vX L p).1)), (rdA L (vX L p).1 C (vX L p).2.1).2) := by unfold arR; rw [if_pos h1, if_neg h2, if_neg h3]
        rw [e] at h ⊢
        cases hr : (rdA L (vX L p).1 C (vX L p).2.1).1 with
        | none => rw [hr] at h; cases h
        | some Y =>
          rw [hr] at h
          injection h with h
          injection h with ha hb
          obtain ⟨j1, j2, j3, j4, j5⟩ := rdA_way k2 hr
          subst ha hb
          dsimp only
          refine ⟨?_, j2, ⟨j3, by omega, fun x hx => ⟨(j4 x hx).1, (j4 x hx).2.2⟩, .inl ⟨by omega, fun x hx => (j4 x hx).2.1⟩⟩, by omega⟩
          unfold amsB
          rw [if_neg h3, List.append_assoc, ← j1]
          exact k1
  · unfold arR at h
    rw [if_neg h1] at h
    cases h
end Go.Proofs.YteookgjmohokiaaGreat
