import Derived.Test.YteookgjmohokiaaGreatLb
import Derived.Test.YteookgjmohokiaaGreatNp
import Derived.Test.YteookgjmohokiaaGreatSh
import Derived.Test.YteookgjmohokiaaGreatAb
namespace Go.Proofs.YteookgjmohokiaaGreat
open Go.Eng
set_option linter.unusedSimpArgs false
set_option linter.unusedVariables false
def scB (M D : Nat) (cs : List Cell) : List Bool := cs.flatMap fun c => numBits c.1 M ++ numBits c.2 D
def sacB (M D : Nat) (st : SS) : List Bool := numBits (st.2.1 - 1) 3 ++ [st.2.2] ++ scB M D st.1
theorem scB_cons (M D : Nat) (c : Cell) (cs : List Cell) : scB M D (c :: cs) = numBits c.1 M ++ numBits c.2 D ++ scB M D cs := by simp [scB]
theorem scB_app (M D : Nat) (X Y : List Cell) : scB M D (X ++ Y) = scB M D X ++ scB M D Y := by simp [scB]
theorem scB_len (M D : Nat) : ∀ (cs : List Cell), (scB M D cs).length = cs.length * (M + D)
  | [] => by simp [scB]
  | c :: cs => by rw [scB_cons, List.length_append, List.length_append, numBits_len, numBits_len, scB_len M D cs, List.length_cons, Nat.add_mul]; omega
theorem scB_take {M D : Nat} {X : List Cell} {i : Nat} {x : Cell} (h : X[i]? = some x) : scB M D (X.take (i + 1)) = scB M D (X.take i) ++ numBits x.1 M ++ numBits x.2 D := by
  rw [List.take_add_one, h, scB_app]
  simp [scB]
theorem sacB_len (M D : Nat) (st : SS) : (sacB M D st).length = 4 + st.1.length * (M + D) := by
  unfold sacB
  rw [List.length_append, List.length_append, numBits_len, scB_len]
  rfl
def rdS (L : List Bool) (M D : Nat) : Nat → Nat → Option (List Cell) × Nat × Int
  | 0, p => (some [], p, 0)
  | c + 1, p =>
    if p + (M + D) ≤ L.length then
      (if numOf ((L.drop p).take M) = 0 ∧ 0 < numOf ((L.drop (p + M)).take D) then (none, p + M + D, 4)
       else ((rdS L M D c (p + M + D)).1.map (fun X => (numOf ((L.drop p).take M), numOf ((L.drop (p + M)).take D)) :: X), (rdS L M D c (p + M + D)).2))
    else (none, p, 5)
theorem rdS_zero {L : List Bool} {M D p : Nat} : rdS L M D 0 p = (some [], p, 0) := rfl
theorem rdS_succ {L : List Bool} {M D c p : Nat} : rdS L M D (c + 1) p =
    if p + (M + D) ≤ L.length then
      (if numOf ((L.drop p).take M) = 0 ∧ 0 < numOf ((L.drop (p + M)).take D) then (none, p + M + D, 4)
       else ((rdS L M D c (p + M + D)).1.map (fun X => (numOf ((L.drop p).take M), numOf ((L.drop (p + M)).take D)) :: X), (rdS L M D c (p + M + D)).2))
    else (none, p, 5) := rfl
def srR (L : List Bool) (M D S n p : Nat) : Option SS × Nat × Int :=
  if p + 4 ≤ L.length then
    (if S < numOf ((L.drop p).take 3) + 1 ∨ (L.getD (p + 3) false = true ∧ numOf ((L.drop p).take 3) + 1 < S) then (none, p + 4, 4)
     else ((rdS L M D n (p + 4)).1.map (fun X => (X, numOf ((L.drop p).take 3) + 1, L.getD (p + 3) false)), (rdS L M D n (p + 4)).2))
  else (none, p, 5)
theorem rdS_le {L : List Bool} {M D : Nat} : ∀ {c p : Nat}, p ≤ L.length → (rdS L M D c p).2.1 ≤ L.length
  | 0, p, h => h
  | c + 1, p, h => by
    unfold rdS
    split
    · split
      · dsimp only; omega
      · exact rdS_le (c := c) (by omega)
    · exact h
theorem srR_le {L : List Bool} {M D S n p : Nat} (h : p ≤ L.length) : (srR L M D S n p).2.1 ≤ L.length := by
  unfold srR
  split
  · split
    · assumption
    · exact rdS_le (by assumption)
  · exact h
theorem rdS_none {L : List Bool} {M D : Nat} : ∀ {c p : Nat}, (rdS L M D c p).1 = none → (rdS L M D c p).2.2 = 4 ∨ (rdS L M D c p).2.2 = 5
  | 0, p, h => by cases h
  | c + 1, p, h => by
    unfold rdS at *
    split at h
    · rename_i h1
      rw [if_pos h1]
      split at h
      · rename_i h2
        rw [if_pos h2]
        exact .inl rfl
      · rename_i h2
        rw [if_neg h2]
        exact rdS_none (c := c) (Option.map_eq_none_iff.1 h)
    · rename_i h1
      rw [if_neg h1]
      exact .inr rfl
theorem srR_none {L : List Bool} {M D S n p : Nat} (h : (srR L M D S n p).1 = none) : (srR L M D S n p).2.2 = 4 ∨ (srR L M D S n p).2.2 = 5 := by
  unfold srR at *
  split at h
  · rename_i h1
    rw [if_pos h1]
    split at h
    · rename_i h2
      rw [if_pos h2]
      exact .inl rfl
    · rename_i h2
      rw [if_neg h2]
      exact rdS_none (Option.map_eq_none_iff.1 h)
  · rename_i h1
    rw [if_neg h1]
    exact .inr rfl
theorem rdS_way {L : List Bool} {M D : Nat} : ∀ {c p : Nat} {X : List Cell}, p ≤ L.length → (rdS L M D c p).1 = some X →
    L.drop p = scB M D X ++ L.drop (rdS L M D c p).2.1 ∧ (rdS L M D c p).2.2 = 0 ∧ X.length = c ∧ (∀ x ∈ X, x.1 < 2 ^ M ∧ x.2 < 2 ^ D ∧ (x.1 = 0 → x.2 = 0)) ∧ (rdS L M D c p).2.1 = p + c * (M + D)
  | 0, p, X, hp, h => by
    injection h with h
    subst h
    exact ⟨rfl, rfl, rfl, fun x hx => (by cases hx), by rw [Nat.zero_mul]; rfl⟩
  | c + 1, p, X, hp, h => by
    by_cases h1 : p + (M + D) ≤ L.length
    · by_cases h3 : numOf ((L.drop p).take M) = 0 ∧ 0 < numOf ((L.drop (p + M)).take D)
      · unfold rdS at h
        rw [if_pos h1, if_pos h3] at h
        cases h
      · have e : rdS L M D (c + 1) p = ((rdS L M D c (p + M + D)).1.map (fun X => (numOf ((L.drop p).take M), numOf ((L.drop (p + M)).take D)) :: X), (rdS L M D c (p + M + D)).2) := by
          conv => lhs; unfold rdS
          rw [if_pos h1, if_neg h3]
        rw [e] at h ⊢
        cases hr : (rdS L M D c (p + M + D)).1 with
        | none => rw [hr] at h; cases h
        | some Y =>
          rw [hr] at h
          injection h with h
          subst h
          obtain ⟨k1, k2, k3, k4, k5⟩ := rdS_way (c := c) (by omega) hr
          dsimp only
          refine ⟨?_, k2, by rw [List.length_cons, k3], fun x hx => ?_, by rw [k5, Nat.add_mul]; omega⟩
          · rw [scB_cons, numBits_of (by omega), numBits_of (by omega), List.append_assoc, List.append_assoc, ← k1, ← cut_take, ← cut_take]
          · rcases List.mem_cons.1 hx with rfl | hx
            · exact ⟨numOf_take_lt _ _, numOf_take_lt _ _, fun h => by dsimp only at h ⊢; omega⟩
            · exact k4 x hx
    · unfold rdS at h
      rw [if_neg h1] at h
      cases h
def okS (M D S n : Nat) (st : SS) : Prop := st.1.length = n ∧ (∀ x ∈ st.1, x.1 < 2 ^ M ∧ x.2 < 2 ^ D ∧ (x.1 = 0 → x.2 = 0)) ∧ 1 ≤ st.2.1 ∧ st.2.1 ≤ S ∧ (st.2.2 = true → st.2.1 = S)
theorem numOf_three {L : List Bool} {p : Nat} (h : p + 4 ≤ L.length) : L.drop p = numBits (numOf ((L.drop p).take 3)) 3 ++ [L.getD (p + 3) false] ++ L.drop (p + 4) := by
  rw [numBits_of (by omega), List.append_assoc]
  conv => lhs; rw [cut_take p 3]
  congr 1
  rw [List.drop_eq_getElem_cons (by omega), List.getD_eq_getElem?_getD, List.getElem?_eq_getElem (by omega)]
  rfl
theorem srR_way {L : List Bool} {M D S n p : Nat} {st : SS} (hp : p ≤ L.length) (h : (srR L M D S n p).1 = some st) :
    L.drop p = sacB M D st ++ L.drop (srR L M D S n p).2.1 ∧ (srR L M D S n p).2.2 = 0 ∧ okS M D S n st ∧ (srR L M D S n p).2.1 = p + (sacB M D st).length := by
  by_cases h1 : p + 4 ≤ L.length
  · by_cases h2 : S < numOf ((L.drop p).take 3) + 1 ∨ (L.getD (p + 3) false = true ∧ numOf ((L.drop p).take 3) + 1 < S)
    · unfold srR at h
      rw [if_pos h1, if_pos h2] at h
      cases h
    · have e : srR L M D S n p = ((rdS L M D n (p + 4)).1.map (fun X => (X, numOf ((L.drop p).take 3) + 1, L.getD (p + 3) false)), (rdS L M D n (p + 4)).2) := by unfold srR; rw [if_pos h1, if_neg h2]
      rw [e] at h ⊢
      cases hr : (rdS L M D n (p + 4)).1 with
      | none => rw [hr] at h; cases h
      | some X =>
        rw [hr] at h
        injection h with h
        obtain ⟨k1, k2, k3, k4, k5⟩ := rdS_way h1 hr
        subst h
        dsimp only
        refine ⟨?_, k2, ⟨k3, k4, by dsimp only; omega, by dsimp only; omega, fun hf => ?_⟩, by rw [k5, sacB_len, k3]; omega⟩
        · unfold sacB
          dsimp only
          rw [Nat.add_sub_cancel, List.append_assoc (_ ++ _), ← k1]
          exact numOf_three h1
        · dsimp only at hf ⊢
          have : ¬ (numOf ((L.drop p).take 3) + 1 < S) := fun hl => h2 (.inr ⟨hf, hl⟩)
          omega
  · unfold srR at h
    rw [if_neg h1] at h
    cases h
end Go.Proofs.YteookgjmohokiaaGreat
