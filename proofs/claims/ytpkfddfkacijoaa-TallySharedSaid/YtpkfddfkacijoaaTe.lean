import Derived.Test.YtpkfddfkacijoaaFb
import Derived.Test.YtpkfddfkacijoaaFw
import Derived.Test.YtpkfddfkacijoaaTb
import Derived.Test.YtpkfddfkacijoaaE6
namespace Go.Proofs.Ytpkfddfkacijoaa
open Go.Eng Go.Vx
set_option linter.unusedSimpArgs false
set_option linter.unusedVariables false
set_option maxRecDepth 100000
def rndN (L : List Bool) (n d p : Nat) : Nat × Int × Nat × Bool :=
  (if (ratX L (n % d) d p).2.1 = 0 then n / d + (if (ratX L (n % d) d p).1 then 1 else 0) else 0, (ratX L (n % d) d p).2.1, (ratX L (n % d) d p).2.2.1, (ratX L (n % d) d p).2.2.2)
def okN (L : List Bool) (p : Nat) (r : Nat × Int × Nat × Bool) : Prop := r = (0, 8, L.length, true) ∨ ∃ n e q, r = (n, e, q, false) ∧ e ≠ 8 ∧ p ≤ q ∧ q ≤ L.length
end Go.Proofs.Ytpkfddfkacijoaa

namespace Go.Proofs.Ytpkfddfkacijoaa
open Go.Eng Go.Vx
set_option linter.unusedSimpArgs false
set_option linter.unusedVariables false
set_option maxRecDepth 100000
end Go.Proofs.Ytpkfddfkacijoaa

namespace Go.Proofs.Ytpkfddfkacijoaa
open Go.Eng Go.Vx
set_option linter.unusedSimpArgs false
set_option linter.unusedVariables false
set_option maxRecDepth 100000
theorem rndX_scale {L : List Bool} {a b g p : Nat} (hg : 0 < g) : rndX L (g * a) (g * b) p = rndX L a b p := by
  unfold rndX
  rw [Nat.mul_mod_mul_left, Nat.mul_div_mul_left _ _ hg, ratX_scale hg]
theorem rndX_frac {L : List Bool} {A B p : Nat} (hB : B ≠ 0) : rndX L (((A : Int) : Rat) / ((B : Int) : Rat)).num.natAbs (((A : Int) : Rat) / ((B : Int) : Rat)).den p = rndX L A B p := by
  have h := frac_eq (p := (A : Int)) (q := (B : Int)) (by omega)
  rw [decide_eq_false (show ¬ (A : Int) < 0 by omega), decide_eq_false (show ¬ (B : Int) < 0 by omega)] at h
  rw [← h, Int.natAbs_natCast, Int.natAbs_natCast]
  show rndX L (mkRat (A : Int) B).num.natAbs (mkRat (A : Int) B).den p = _
  rw [mkRat_numG hB, mkRat_denG hB, sg_abs, Int.natAbs_natCast]
  have hg : 0 < Nat.gcd A B := Nat.gcd_pos_of_pos_right _ (by omega)
  have h2 := rndX_scale (L := L) (a := A / Nat.gcd A B) (b := B / Nat.gcd A B) (p := p) hg
  rw [Nat.mul_div_cancel' (Nat.gcd_dvd_left A B), Nat.mul_div_cancel' (Nat.gcd_dvd_right A B)] at h2
  exact h2.symm
theorem frac_bounds {A B : Nat} (hB : B ≠ 0) (hA : A ≤ 1099511627776) : ¬ ((A : Int) : Rat) / ((B : Int) : Rat) < 0 ∧ ¬ ((1099511627776 : Int) : Rat) < ((A : Int) : Rat) / ((B : Int) : Rat) := by
  have hB' : (0 : Rat) < ((B : Int) : Rat) := Rat.intCast_pos.2 (by omega)
  constructor
  · rw [Rat.not_lt, ← Rat.num_nonneg]
    have := num_nonnegR (A := A) hB
    omega
  · rw [Rat.lt_div_iff hB', ← Rat.intCast_mul, Rat.intCast_lt_intCast]
    have := Nat.mul_le_mul_left 1099511627776 (show 1 ≤ B by omega)
    omega
end Go.Proofs.Ytpkfddfkacijoaa

namespace Go.Vx
open Go.Eng
set_option linter.unusedSimpArgs false
set_option linter.unusedVariables false
structure Hid (T : Prop) : Prop where
def arrB (S : List Bool) : List V := S.map fun b => .lit (.bool b)
def fls (n : Nat) : List Bool := List.replicate n false
section
variable {F : FV} {KK : Ob → Prop} {S T : List Bool} {i n : Nat}
end
end Go.Vx
