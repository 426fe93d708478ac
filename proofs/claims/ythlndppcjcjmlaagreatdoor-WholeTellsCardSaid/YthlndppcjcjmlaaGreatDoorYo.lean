import Derived.Test.YthlndppcjcjmlaaGreatDoorYl
/-! Law 5: the document's Bits and Gcd. -/
namespace Go.Proofs.YthlndppcjcjmlaaGreatDoor
open Go.Eng Go.Vx
set_option linter.unusedSimpArgs false
set_option linter.unusedVariables false
set_option maxRecDepth 100000
theorem dg_pos {b : Nat} (hb : b ≠ 0) : 0 < (dg b).length := by
  rcases Nat.eq_zero_or_pos (dg b).length with h | h
  · exfalso
    have h' : dg b = [] := List.length_eq_zero_iff.1 h
    have : valB 10000 (dg b) = b := dgB_val (by decide) b
    rw [h'] at this
    exact hb this.symm
  · exact h
end Go.Proofs.YthlndppcjcjmlaaGreatDoor
