import Derived.Test.YtpkfddfkacijoaaAa
import Derived.Test.YtpkfddfkacijoaaFw
namespace Go.Proofs.Ytpkfddfkacijoaa
set_option linter.unusedSimpArgs false
set_option linter.unusedVariables false
def updL (L : List Bool) (N key : Nat) : List (Nat × Nat) → Nat → Option (List (Nat × Nat) × Nat)
  | [], p => some ([], p)
  | x :: xs, p => if (belowX L N p).2.1 = 0 then (updL L N key xs (belowX L N p).2.2.1).map fun r => (stp key (belowX L N p).1 x :: r.1, r.2) else none
theorem belowX_ok {L : List Bool} {n p : Nat} (hn : 0 < n) (h : (belowX L n p).2.1 = 0) : (belowX L n p).2.2.2 = false ∧ (belowX L n p).1 < n := by
  rcases belowX_cases (L := L) (p := p) hn with e | ⟨x, q, hx, e⟩
  · rw [e] at h; exact absurd h (show ¬ (8 : Int) = 0 by decide)
  · rw [e]; exact ⟨rfl, hx⟩
theorem belowX_err {L : List Bool} {n p : Nat} (hn : 0 < n) (h : (belowX L n p).2.1 ≠ 0) : belowX L n p = (0, 8, L.length, true) := by
  rcases belowX_cases (L := L) (p := p) hn with e | ⟨x, q, hx, e⟩
  · exact e
  · rw [e] at h; exact absurd rfl h
theorem updL_ok {L : List Bool} {N key : Nat} : ∀ {X : List (Nat × Nat)} {p : Nat} {X' : List (Nat × Nat)} {q : Nat}, p ≤ L.length → updL L N key X p = some (X', q) → p ≤ q ∧ q ≤ L.length ∧ X'.length = X.length := by
  intro X
  induction X with
  | nil =>
    intro p X' q hp h
    unfold updL at h
    cases h
    exact ⟨Nat.le_refl _, hp, rfl⟩
  | cons x xs ih =>
    intro p X' q hp h
    unfold updL at h
    split at h
    · rename_i h0
      obtain ⟨e1, e2⟩ := belowX_end (L := L) (n := N) hp
      cases hr : updL L N key xs (belowX L N p).2.2.1 with
      | none => rw [hr] at h; cases h
      | some r =>
        obtain ⟨r1, r2⟩ := r
        rw [hr] at h
        cases h
        obtain ⟨a, b, c⟩ := ih e2 hr
        exact ⟨by omega, b, by simp [c]⟩
    · cases h
theorem updL_all {L : List Bool} {N key : Nat} (hN : 0 < N) {A B : Nat × Nat → Prop} (hAB : ∀ x a, a < N → A x → B (stp key a x)) : ∀ {X : List (Nat × Nat)} {p : Nat} {X' : List (Nat × Nat)} {q : Nat}, (∀ x ∈ X, A x) → updL L N key X p = some (X', q) → ∀ x ∈ X', B x := by
  intro X
  induction X with
  | nil =>
    intro p X' q _ h
    unfold updL at h
    cases h
    exact fun x hx => by cases hx
  | cons x xs ih =>
    intro p X' q hX h
    unfold updL at h
    split at h
    · rename_i h0
      cases hr : updL L N key xs (belowX L N p).2.2.1 with
      | none => rw [hr] at h; cases h
      | some r =>
        obtain ⟨r1, r2⟩ := r
        rw [hr] at h
        cases h
        intro y hy
        rcases List.mem_cons.1 hy with e | e
        · rw [e]; exact hAB x _ (belowX_ok hN h0).2 (hX x (by simp))
        · exact ih (fun z hz => hX z (by simp [hz])) hr y e
    · cases h
def alone (key N : Nat) (x : Nat × Nat) : Prop := x.1 = key ∧ 1 ≤ x.2 ∧ x.2 ≤ N
theorem updL_le {L : List Bool} {N key B : Nat} {X X' : List (Nat × Nat)} {p q : Nat} (hk : key < B) (hX : ∀ x ∈ X, x.1 < B ∧ x.2 ≤ N) (h : updL L (N + 1) key X p = some (X', q)) : ∀ x ∈ X', x.1 < B ∧ x.2 ≤ N + 1 := by
  refine updL_all (Nat.succ_pos N) (A := fun x => x.1 < B ∧ x.2 ≤ N) (fun x a ha hx => ?_) hX h
  unfold stp
  split
  · exact ⟨hk, by show 1 ≤ N + 1; omega⟩
  · split
    · exact ⟨hx.1, by show x.2 + 1 ≤ N + 1; omega⟩
    · exact ⟨hx.1, by omega⟩
theorem run_playQ {fin : Nat × Nat → Rat} {L : List Bool} (hL : L.length + 1 ≤ 40) {k : Nat} {ks : List Nat} {N p : Nat} {x : Nat × Nat} (hp : p ≤ L.length) : (playQ fin (k :: ks) N x).run L p = match updL L (N + 1) k [x] p with | some (X', q) => (playQ fin ks (N + 1) (X'.getD 0 (0, 0))).run L q | none => none := by
  show (belQ (N + 1) (bl N) 40 fun a => playQ fin ks (N + 1) (stp k a x)).run L p = _
  have h := run_bel (L := L) (n := N + 1) (p := p) (f := 40) (k := fun a => playQ fin ks (N + 1) (stp k a x)) (Nat.succ_pos N) hp hL
  rw [Nat.add_sub_cancel] at h
  rw [h]
  unfold updL updL
  by_cases h0 : (belowX L (N + 1) p).2.1 = 0
  · rw [if_pos h0, if_pos h0]
    rfl
  · rw [if_neg h0, if_neg h0]
end Go.Proofs.Ytpkfddfkacijoaa
