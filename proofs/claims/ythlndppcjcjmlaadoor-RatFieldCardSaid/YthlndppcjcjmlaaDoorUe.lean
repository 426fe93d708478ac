import Derived.Test.YthlndppcjcjmlaaDoorUa
/-! Package whole: what laws 6 and 7 share. -/
namespace Go.Proofs.YthlndppcjcjmlaaDoor
open Go.Eng Go.Vx
set_option linter.unusedSimpArgs false
set_option linter.unusedVariables false
set_option maxRecDepth 100000
theorem zS_lit (n : Nat) (h : n < 10) : decS n = [UInt8.ofNat (48 + n)] := by
  have : ∀ n, n < 10 → decS n = [UInt8.ofNat (48 + n)] := fun n h => by
    rw [decS_small h]
  exact this n h
theorem dmul_len {a b k j l : Nat} (ha : (dg a).length ≤ k) (hb : (dg b).length ≤ j) (hl : k + j = l) : (dg (a * b)).length ≤ l := by
  subst hl
  exact Nat.le_trans (dg_mul _ _) (Nat.add_le_add ha hb)
end Go.Proofs.YthlndppcjcjmlaaDoor
