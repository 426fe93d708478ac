import Derived.Test.YtpkfddfkacijoaaDoorFa
import Derived.Test.YtpkfddfkacijoaaDoorLa
import Derived.Test.YtpkfddfkacijoaaDoorFw
import Derived.Test.YtpkfddfkacijoaaDoorD3
import Derived.Test.YtpkfddfkacijoaaDoorN1
import Derived.Test.YtpkfddfkacijoaaDoorSa
namespace Go.Proofs.YtpkfddfkacijoaaDoor
open Go.Eng Go.Vx
set_option linter.unusedSimpArgs false
set_option linter.unusedVariables false
set_option maxRecDepth 100000
def goodB (P D : Nat) : Prop := ¬ (D = 0 ∨ D < P)
def powR (L : List Bool) (P D : Nat) : Nat → Nat → Bool × Int × Nat × Bool
  | 0, p => (true, 0, p, false)
  | k + 1, p => if (ratX L P D p).1 then powR L P D k (ratX L P D p).2.2.1 else ratX L P D p
def powX (L : List Bool) (P D K p : Nat) : Bool × Int × Nat × Bool := if D = 0 ∨ D < P then (false, 2, p, false) else powR L P D K p
end Go.Proofs.YtpkfddfkacijoaaDoor

namespace Go.Proofs.YtpkfddfkacijoaaDoor
open Go.Eng Go.Vx
set_option linter.unusedSimpArgs false
set_option linter.unusedVariables false
set_option maxRecDepth 100000
end Go.Proofs.YtpkfddfkacijoaaDoor

namespace Go.Proofs.YtpkfddfkacijoaaDoor
open Go.Eng Go.Vx
set_option linter.unusedSimpArgs false
set_option linter.unusedVariables false
set_option maxRecDepth 100000
theorem ws_nat {l : List Int} (h : ∀ x ∈ l, 0 ≤ x ∧ x ≤ 18446744073709551615) : ∃ W : List Nat, l = nl W ∧ ∀ d ∈ W, d < 18446744073709551616 := by
  refine ⟨l.map Int.toNat, ?_, fun d hd => ?_⟩
  · unfold nl
    rw [List.map_map]
    conv => lhs; rw [← List.map_id l]
    exact List.map_congr_left fun x hx => by have := h x hx; simp; omega
  · obtain ⟨x, hx, rfl⟩ := List.mem_map.1 hd
    have := h x hx
    omega
end Go.Proofs.YtpkfddfkacijoaaDoor

namespace Go.Proofs.YtpkfddfkacijoaaDoor
open Go.Eng Go.Vx
set_option linter.unusedSimpArgs false
set_option linter.unusedVariables false
set_option maxRecDepth 100000
end Go.Proofs.YtpkfddfkacijoaaDoor

namespace Go.Proofs.YtpkfddfkacijoaaDoor
set_option linter.unusedVariables false
def nf (r : SS) : Prop := r.2.2 = false
def lvD (P : SP) : Nat → SS → DT SS
  | 0, st => .ret st
  | k + 1, st => (rsD P st.2.1 (-1) st.1 0 (0, 0)).bind fun r => lvD P k (r.1, st.2.1 + 1, st.2.2)
def togD (x y : SS) (i : Nat) : DT Cell :=
  (rndD (wth (x.1.getD i (0, 0)) x.2.1) (x.2.1 * max (x.1.getD i (0, 0)).2 (y.1.getD i (0, 0)).2)).bind fun n =>
  (rndD (wth (y.1.getD i (0, 0)) x.2.1) (x.2.1 * max (x.1.getD i (0, 0)).2 (y.1.getD i (0, 0)).2)).bind fun m => .ret (n + m, max (x.1.getD i (0, 0)).2 (y.1.getD i (0, 0)).2)
def mgD (P : SP) : Nat → Nat → SS → SS → DT SS
  | 0, _, x, y => .ret (x.1, x.2.1, x.2.2 || y.2.2)
  | k + 1, i, x, y => (lvD P (x.2.1 - y.2.1) y).bind fun y1 => (togD x y1 i).bind fun c => (fitD P i (fuelF P x.2.1 c.2) x c).bind fun x1 => mgD P k (i + 1) x1 y1
def mergeD (P : SP) (x y : SS) : DT SS := (lvD P (y.2.1 - x.2.1) x).bind fun x1 => mgD P x.1.length 0 x1 y
end Go.Proofs.YtpkfddfkacijoaaDoor
