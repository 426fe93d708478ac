import Derived.Test.YtpkfddfkacijoaaGreatDoorD3
import Derived.Test.YtpkfddfkacijoaaGreatDoorFb
import Derived.Test.YtpkfddfkacijoaaGreatDoorFa
import Derived.Test.YtpkfddfkacijoaaGreatDoorRa
import Derived.Test.YtpkfddfkacijoaaGreatDoorE6
import Derived.Test.YtpkfddfkacijoaaGreatDoorD1
import Derived.Test.YtpkfddfkacijoaaGreatDoorLa
import Derived.Test.YtpkfddfkacijoaaGreatDoorN1
import Derived.Test.YtpkfddfkacijoaaGreatDoorNe
import Derived.Test.YtpkfddfkacijoaaGreatDoorYh
namespace Go.Proofs.YtpkfddfkacijoaaGreatDoor
open Go.Eng Go.Vx
set_option linter.unusedSimpArgs false
set_option linter.unusedVariables false
set_option maxRecDepth 100000
end Go.Proofs.YtpkfddfkacijoaaGreatDoor

namespace Go.Proofs.YtpkfddfkacijoaaGreatDoor
open Go.Eng Go.Vx
set_option linter.unusedSimpArgs false
set_option linter.unusedVariables false
set_option maxRecDepth 100000
end Go.Proofs.YtpkfddfkacijoaaGreatDoor

namespace Go.Proofs.YtpkfddfkacijoaaGreatDoor
open Go.Eng Go.Vx
set_option linter.unusedSimpArgs false
set_option linter.unusedVariables false
set_option maxRecDepth 100000
def rndX (L : List Bool) (n d p : Nat) : Int × Int × Nat × Bool :=
  let r := ratX L (n % d) d p
  (if r.2.1 = 0 then ((n / d + (if r.1 then 1 else 0) : Nat) : Int) else 0, r.2.1, r.2.2.1, r.2.2.2)
end Go.Proofs.YtpkfddfkacijoaaGreatDoor

namespace Go.Proofs.YtpkfddfkacijoaaGreatDoor
open Go.Eng Go.Vx
set_option linter.unusedSimpArgs false
set_option linter.unusedVariables false
set_option maxRecDepth 100000
def dg (n : Nat) : List Nat := dgB 10000 n
def DV (n : Nat) : V := .row 1 ((nl (dg n)).map (ie .i64))
attribute [go_sem] DV
end Go.Proofs.YtpkfddfkacijoaaGreatDoor

namespace Go.Proofs.YtpkfddfkacijoaaGreatDoor
open Go.Eng Go.Vx
set_option linter.unusedSimpArgs false
set_option linter.unusedVariables false
set_option maxRecDepth 100000
def wv (W : List Nat) : Nat := valB 18446744073709551616 W
end Go.Proofs.YtpkfddfkacijoaaGreatDoor

namespace Go.Proofs.YtpkfddfkacijoaaGreatDoor
open Go.Eng Go.Vx
set_option linter.unusedSimpArgs false
set_option linter.unusedVariables false
set_option maxRecDepth 100000
end Go.Proofs.YtpkfddfkacijoaaGreatDoor

namespace Go.Proofs.YtpkfddfkacijoaaGreatDoor
open Go.Eng Go.Vx
set_option linter.unusedSimpArgs false
set_option linter.unusedVariables false
set_option maxRecDepth 100000
end Go.Proofs.YtpkfddfkacijoaaGreatDoor

namespace Go.Proofs.YtpkfddfkacijoaaGreatDoor
open Go.Eng Go.Vx
set_option linter.unusedSimpArgs false
set_option linter.unusedVariables false
set_option maxRecDepth 100000
theorem ws_nat {l : List Int} (h : ∀ x ∈ l, 0 ≤ x ∧ x ≤ 18446744073709551615) : ∃ W : List Nat, l = nl W ∧ ∀ d ∈ W, d < 18446744073709551616 := by
  refine ⟨l.map Int.toNat, ?_, fun d hd => ?_⟩
  · unfold nl
    rw [List.map_map]
    conv => lhs; rw [← List.map_id l]
    exact List.map_congr_left fun x hx => by have := h x hx; simp; omega
  · obtain ⟨x, hx, rfl⟩ := List.mem_map.1 hd
    have := h x hx
    omega
end Go.Proofs.YtpkfddfkacijoaaGreatDoor

namespace Go.Proofs.YtpkfddfkacijoaaGreatDoor
open Go.Eng Go.Vx
set_option linter.unusedSimpArgs false
set_option linter.unusedVariables false
set_option maxRecDepth 100000
end Go.Proofs.YtpkfddfkacijoaaGreatDoor

namespace Go.Proofs.YtpkfddfkacijoaaGreatDoor
open Go.Eng Go.Vx
set_option linter.unusedSimpArgs false
set_option linter.unusedVariables false
set_option maxRecDepth 100000
end Go.Proofs.YtpkfddfkacijoaaGreatDoor

namespace Go.Proofs.YtpkfddfkacijoaaGreatDoor
open Go.Eng Go.Vx
set_option linter.unusedSimpArgs false
set_option linter.unusedVariables false
set_option maxRecDepth 100000
end Go.Proofs.YtpkfddfkacijoaaGreatDoor
