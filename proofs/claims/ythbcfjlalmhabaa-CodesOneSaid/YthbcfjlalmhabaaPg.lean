import Derived.Test.YthbcfjlalmhabaaPf
/-! No code of a number begins with another one's: plain facts. -/
namespace Go.Proofs.Ythbcfjlalmhabaa
open Go.Eng
set_option linter.unusedSimpArgs false
set_option linter.unusedVariables false
theorem pref_of {F : Nat → List Bool} {R : List Bool → Nat} (hR : ∀ n T, n ≠ 0 → n < 18446744073709551616 → R (F n ++ T) = n) {x y : Nat} (hx0 : x ≠ 0) (hx : x < 18446744073709551616) (hy0 : y ≠ 0) (hy : y < 18446744073709551616) :
    ((F x).take (min (F x).length (F y).length) = (F y).take (min (F x).length (F y).length)) ↔ x = y := by
  refine ⟨fun h => ?_, fun h => by rw [h]⟩
  by_cases hl : (F x).length ≤ (F y).length
  · rw [Nat.min_eq_left hl, List.take_length] at h
    have e : F y = F x ++ (F y).drop (F x).length := by
      have := List.take_append_drop (F x).length (F y)
      rw [← h] at this
      exact this.symm
    have a1 := hR x ((F y).drop (F x).length) hx0 hx
    rw [← e] at a1
    have a2 := hR y [] hy0 hy
    rw [List.append_nil, a1] at a2
    exact a2
  · rw [Nat.min_eq_right (by omega), List.take_length] at h
    have e : F x = F y ++ (F x).drop (F y).length := by
      have := List.take_append_drop (F y).length (F x)
      rw [h] at this
      exact this.symm
    have a1 := hR y ((F x).drop (F y).length) hy0 hy
    rw [← e] at a1
    have a2 := hR x [] hx0 hx
    rw [List.append_nil, a1] at a2
    exact a2.symm
theorem readG (n : Nat) (T : List Bool) (h0 : n ≠ 0) (hn : n < 18446744073709551616) : (gX (gammaB n ++ T) 0).1 = n := by
  have := gX_back (A := []) (T := T) h0 hn
  rw [List.nil_append, List.length_nil] at this
  rw [this]
theorem readD (n : Nat) (T : List Bool) (h0 : n ≠ 0) (hn : n < 18446744073709551616) : (dX (deltaB n ++ T) 0).1 = n := by
  have := dX_back (A := []) (T := T) h0 hn
  rw [List.nil_append, List.length_nil] at this
  rw [this]
theorem readV (n : Nat) (T : List Bool) (h0 : n ≠ 0) (hn : n < 18446744073709551616) : (vX (varB n ++ T) 0).1 = n := by
  have := vX_back (A := []) (T := T) hn
  rw [List.nil_append, List.length_nil] at this
  rw [this]
theorem take_eq_succ {l m : List Bool} {i : Nat} (h1 : i < l.length) (h2 : i < m.length) : (l.take (i + 1) = m.take (i + 1)) ↔ (l.take i = m.take i ∧ l.getD i false = m.getD i false) := by
  have e1 := take_succ_getD l i h1
  have e2 := take_succ_getD m i h2
  rw [e1, e2]
  constructor
  · intro h
    have := List.append_inj h (by simp; omega)
    exact ⟨this.1, by simpa using this.2⟩
  · rintro ⟨h1, h2⟩
    rw [h1, show l.getD i default = m.getD i default from h2]
end Go.Proofs.Ythbcfjlalmhabaa
