import Derived.Test.YthlndppcjcjmlaaGreatDoorUa
/-! Package whole: what laws 6 and 7 share. -/
namespace Go.Proofs.YthlndppcjcjmlaaGreatDoor
open Go.Eng Go.Vx
set_option linter.unusedSimpArgs false
set_option linter.unusedVariables false
set_option maxRecDepth 100000
theorem zS_lit (n : Nat) (h : n < 10) : decS n = [UInt8.ofNat (48 + n)] := by
  have : ∀ n, n < 10 → decS n = [UInt8.ofNat (48 + n)] := fun n h => by
    rw [decS_small h]
  exact this n h
end Go.Proofs.YthlndppcjcjmlaaGreatDoor
