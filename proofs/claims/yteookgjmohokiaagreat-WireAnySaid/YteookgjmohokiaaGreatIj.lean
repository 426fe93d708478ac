import Derived.Test.YteookgjmohokiaaGreatIc
import Derived.Test.YteookgjmohokiaaGreatLb
namespace Go.Proofs.YteookgjmohokiaaGreat
open Go.Eng Go.Vx
set_option linter.unusedSimpArgs false
set_option linter.unusedVariables false
set_option maxRecDepth 100000
theorem crX_le {L : List Bool} {k a b : Nat} : ∀ {n p : Nat}, p ≤ L.length → (crX L k a b n p).2.1 ≤ L.length
  | 0, p, h => h
  | n + 1, p, h => by
    rw [crX_succ]
    have h1 := rrX_le (k := k) (a := a) (b := b) h
    generalize rrX L k a b p = v at *
    obtain ⟨o, q, e⟩ := v
    cases o with
    | none => exact h1
    | some s => exact crX_le (n := n) h1
theorem crX_some {L : List Bool} {k a b : Nat} : ∀ {n p : Nat} {l : List SR}, (crX L k a b n p).1 = some l → (crX L k a b n p).2.2 = 0 ∧ l.length = n ∧ ∀ s ∈ l, wellN k a b s
  | 0, p, l, h => by
    injection h with h
    subst h
    exact ⟨rfl, rfl, fun s hs => by cases hs⟩
  | n + 1, p, l, h => by
    rw [crX_succ] at h ⊢
    have h1 := (rrX_err (L := L) (k := k) (a := a) (b := b) (p := p)).2
    generalize rrX L k a b p = v at *
    obtain ⟨o, q, e⟩ := v
    cases o with
    | none => cases h
    | some s =>
      dsimp only at h h1 ⊢
      have ih := fun l => crX_some (L := L) (k := k) (a := a) (b := b) (n := n) (p := q) (l := l)
      generalize crX L k a b n q = u at *
      obtain ⟨o, q2, e2⟩ := u
      cases o with
      | none => cases h
      | some m =>
        injection h with h
        subst h
        obtain ⟨i1, i2, i3⟩ := ih _ rfl
        refine ⟨i1, by rw [List.length_cons, i2], fun x hx => ?_⟩
        rcases List.mem_cons.1 hx with rfl | hx
        · exact (h1 _ rfl).2
        · exact i3 x hx
theorem crX_none {L : List Bool} {k a b : Nat} : ∀ {n p : Nat}, (crX L k a b n p).1 = none → (crX L k a b n p).2.2 ≠ 0
  | 0, p, h => by cases h
  | n + 1, p, h => by
    rw [crX_succ] at h ⊢
    have h1 := (rrX_err (L := L) (k := k) (a := a) (b := b) (p := p)).1
    generalize rrX L k a b p = v at *
    obtain ⟨o, q, e⟩ := v
    cases o with
    | none => exact h1 rfl
    | some s =>
      dsimp only at h ⊢
      have ih := crX_none (L := L) (k := k) (a := a) (b := b) (n := n) (p := q)
      generalize crX L k a b n q = u at *
      obtain ⟨o, q2, e2⟩ := u
      cases o with
      | none => exact ih rfl
      | some m => cases h
abbrev RW := Nat × Nat × List SR
def rowX (L : List Bool) (k a b C p : Nat) : Option RW × Nat × Int :=
  if p + 61 ≤ L.length then
    (if p + 122 ≤ L.length then
      (if numOf ((L.drop p).take 61) < 2305843009213693951 ∧ numOf ((L.drop (p + 61)).take 61) < 2305843009213693951 then
        ((crX L k a b C (p + 122)).1.map (fun l => (numOf ((L.drop p).take 61), numOf ((L.drop (p + 61)).take 61), l)), (crX L k a b C (p + 122)).2)
       else (none, p + 122, 4))
     else (none, p + 61, 5))
  else (none, p, 5)
theorem rowX_le {L : List Bool} {k a b C p : Nat} (h : p ≤ L.length) : (rowX L k a b C p).2.1 ≤ L.length := by
  unfold rowX
  split
  · split
    · split
      · exact crX_le (by assumption)
      · assumption
    · assumption
  · exact h
def okRow (k a b C : Nat) (r : RW) : Prop := r.1 < 2305843009213693951 ∧ r.2.1 < 2305843009213693951 ∧ r.2.2.length = C ∧ ∀ s ∈ r.2.2, wellN k a b s
theorem rowX_some {L : List Bool} {k a b C p : Nat} {r : RW} (h : (rowX L k a b C p).1 = some r) : (rowX L k a b C p).2.2 = 0 ∧ okRow k a b C r := by
  unfold rowX at *
  split at h
  · rename_i h1
    rw [if_pos h1]
    split at h
    · rename_i h2
      rw [if_pos h2]
      split at h
      · rename_i h3
        rw [if_pos h3]
        have ih := fun l => crX_some (L := L) (k := k) (a := a) (b := b) (n := C) (p := p + 122) (l := l)
        generalize crX L k a b C (p + 122) = u at *
        obtain ⟨o, q, e⟩ := u
        cases o with
        | none => cases h
        | some l =>
          injection h with h
          subst h
          obtain ⟨i1, i2, i3⟩ := ih _ rfl
          exact ⟨i1, h3.1, h3.2, i2, i3⟩
      · cases h
    · cases h
  · cases h
theorem rowX_none {L : List Bool} {k a b C p : Nat} (h : (rowX L k a b C p).1 = none) : (rowX L k a b C p).2.2 ≠ 0 := by
  unfold rowX at *
  split at h
  · rename_i h1
    rw [if_pos h1]
    split at h
    · rename_i h2
      rw [if_pos h2]
      split at h
      · rename_i h3
        rw [if_pos h3]
        have ih := crX_none (L := L) (k := k) (a := a) (b := b) (n := C) (p := p + 122)
        generalize crX L k a b C (p + 122) = u at *
        obtain ⟨o, q, e⟩ := u
        cases o with
        | none => exact ih rfl
        | some l => cases h
      · rename_i h3
        rw [if_neg h3]
        exact (show (4 : Int) ≠ 0 by decide)
    · rename_i h2
      rw [if_neg h2]
      exact (show (5 : Int) ≠ 0 by decide)
  · rename_i h1
    rw [if_neg h1]
    exact (show (5 : Int) ≠ 0 by decide)
def rowsX (L : List Bool) (k a b C : Nat) : Nat → Nat → Option (List RW) × Nat × Int
  | 0, p => (some [], p, 0)
  | n + 1, p => match rowX L k a b C p with
    | (some r, q, _) => ((rowsX L k a b C n q).1.map (r :: ·), (rowsX L k a b C n q).2)
    | (none, q, e) => (none, q, e)
theorem rowsX_zero {L : List Bool} {k a b C p : Nat} : rowsX L k a b C 0 p = (some [], p, 0) := (rfl)
theorem rowsX_succ {L : List Bool} {k a b C n p : Nat} : rowsX L k a b C (n + 1) p = match rowX L k a b C p with
    | (some r, q, _) => ((rowsX L k a b C n q).1.map (r :: ·), (rowsX L k a b C n q).2)
    | (none, q, e) => (none, q, e) := (rfl)
theorem rowsX_le {L : List Bool} {k a b C : Nat} : ∀ {n p : Nat}, p ≤ L.length → (rowsX L k a b C n p).2.1 ≤ L.length
  | 0, p, h => h
  | n + 1, p, h => by
    rw [rowsX_succ]
    have h1 := rowX_le (k := k) (a := a) (b := b) (C := C) h
    generalize rowX L k a b C p = v at *
    obtain ⟨o, q, e⟩ := v
    cases o with
    | none => exact h1
    | some s => exact rowsX_le (n := n) h1
theorem rowsX_some {L : List Bool} {k a b C : Nat} : ∀ {n p : Nat} {l : List RW}, (rowsX L k a b C n p).1 = some l → (rowsX L k a b C n p).2.2 = 0 ∧ l.length = n ∧ ∀ r ∈ l, okRow k a b C r
  | 0, p, l, h => by
    injection h with h
    subst h
    exact ⟨rfl, rfl, fun s hs => by cases hs⟩
  | n + 1, p, l, h => by
    rw [rowsX_succ] at h ⊢
    have h1 := fun r => rowX_some (L := L) (k := k) (a := a) (b := b) (C := C) (p := p) (r := r)
    generalize rowX L k a b C p = v at *
    obtain ⟨o, q, e⟩ := v
    cases o with
    | none => cases h
    | some s =>
      dsimp only at h h1 ⊢
      have ih := fun l => rowsX_some (L := L) (k := k) (a := a) (b := b) (C := C) (n := n) (p := q) (l := l)
      generalize rowsX L k a b C n q = u at *
      obtain ⟨o, q2, e2⟩ := u
      cases o with
      | none => cases h
      | some m =>
        injection h with h
        subst h
        obtain ⟨i1, i2, i3⟩ := ih _ rfl
        refine ⟨i1, by rw [List.length_cons, i2], fun x hx => ?_⟩
        rcases List.mem_cons.1 hx with rfl | hx
        · exact (h1 _ rfl).2
        · exact i3 x hx
theorem rowsX_none {L : List Bool} {k a b C : Nat} : ∀ {n p : Nat}, (rowsX L k a b C n p).1 = none → (rowsX L k a b C n p).2.2 ≠ 0
  | 0, p, h => by cases h
  | n + 1, p, h => by
    rw [rowsX_succ] at h ⊢
    have h1 := rowX_none (L := L) (k := k) (a := a) (b := b) (C := C) (p := p)
    generalize rowX L k a b C p = v at *
    obtain ⟨o, q, e⟩ := v
    cases o with
    | none => exact h1 rfl
    | some s =>
      dsimp only at h ⊢
      have ih := rowsX_none (L := L) (k := k) (a := a) (b := b) (C := C) (n := n) (p := q)
      generalize rowsX L k a b C n q = u at *
      obtain ⟨o, q2, e2⟩ := u
      cases o with
      | none => exact ih rfl
      | some m => cases h
def cmR (L : List Bool) (R C k a b p : Nat) : Option (List RW × Nat) × Nat × Int :=
  if (vX L p).2.2 = 0 then
    (if 1099511627776 < (vX L p).1 then (none, (vX L p).2.1, 4)
     else ((rowsX L k a b C R (vX L p).2.1).1.map (fun l => (l, (vX L p).1)), (rowsX L k a b C R (vX L p).2.1).2))
  else (none, (vX L p).2.1, (vX L p).2.2)
theorem cmR_le {L : List Bool} {R C k a b p : Nat} (h : p ≤ L.length) : (cmR L R C k a b p).2.1 ≤ L.length := by
  have h1 : (vX L p).2.1 ≤ L.length := vXj_le _ _ _ _ h
  unfold cmR
  split
  · split
    · exact h1
    · exact rowsX_le h1
  · exact h1
theorem cmR_none {L : List Bool} {R C k a b p : Nat} (h : (cmR L R C k a b p).1 = none) : (cmR L R C k a b p).2.2 ≠ 0 := by
  unfold cmR at *
  split at h
  · rename_i h1
    rw [if_pos h1]
    split at h
    · rename_i h2
      rw [if_pos h2]
      exact (show (4 : Int) ≠ 0 by decide)
    · rename_i h2
      rw [if_neg h2]
      exact rowsX_none (Option.map_eq_none_iff.1 h)
  · rename_i h1
    rw [if_neg h1]
    exact h1
theorem cmR_some {L : List Bool} {R C k a b p : Nat} {x : List RW × Nat} (h : (cmR L R C k a b p).1 = some x) : (cmR L R C k a b p).2.2 = 0 ∧ x.1.length = R ∧ x.2 ≤ 1099511627776 ∧ ∀ r ∈ x.1, okRow k a b C r := by
  unfold cmR at *
  split at h
  · rename_i h1
    rw [if_pos h1]
    split at h
    · cases h
    · rename_i h2
      rw [if_neg h2]
      obtain ⟨l, hl, rfl⟩ := Option.map_eq_some_iff.1 h
      obtain ⟨i1, i2, i3⟩ := rowsX_some hl
      exact ⟨i1, i2, by dsimp only; omega, i3⟩
  · cases h
end Go.Proofs.YteookgjmohokiaaGreat
