import Derived.Test.YtpkfddfkacijoaaAe
import Derived.Test.YtpkfddfkacijoaaFw
import Derived.Test.YtpkfddfkacijoaaAd
import Derived.Test.YtpkfddfkacijoaaZq
import Derived.Test.YtpkfddfkacijoaaFb
namespace Go.Proofs.Ytpkfddfkacijoaa
open Go.Eng Go.Vx
set_option linter.unusedSimpArgs false
set_option linter.unusedVariables false
set_option maxRecDepth 100000
def rfC (X : List (Nat × Nat)) (N : Nat) (L : List Bool) (p : Nat) (e : Int) : List V := [.row 2 (X.map sV), .lit (.int .i64 (N : Int)), .row 1 (L.map be), .lit (.int .i64 (p : Int)), .lit (.int .i64 e)]
def rfV (X : List (Nat × Nat)) (N : Nat) (L : List Bool) (p : Nat) (e : Int) : V := .agg (rfC X N L p e)
attribute [go_sem] rfC rfV
def updX (L : List Bool) (N key : Nat) (X : List (Nat × Nat)) (p : Nat) : List (Nat × Nat) × Nat × Int := match updL L (N + 1) key X p with | some r => (r.1, r.2, 0) | none => (X, L.length, 8)
end Go.Proofs.Ytpkfddfkacijoaa

namespace Go.Proofs.Ytpkfddfkacijoaa
open Go.Eng Go.Vx
set_option linter.unusedSimpArgs false
set_option linter.unusedVariables false
set_option maxRecDepth 100000
end Go.Proofs.Ytpkfddfkacijoaa

namespace Go.Proofs.Ytpkfddfkacijoaa
open Go.Eng Go.Vx
set_option linter.unusedSimpArgs false
set_option linter.unusedVariables false
set_option maxRecDepth 100000
def rqC (x : Rat) : List V := [.row 1 ((nl (wg x.num.natAbs)).map (ie .u64)), .lit (.bool (decide (x.num < 0))), .row 1 ((nl (wg (x.den - 1))).map (ie .u64))]
attribute [go_sem] rqC
theorem rqC_zero : rqC 0 = [.row 1 [], .lit (.bool false), .row 1 []] := by
  have h := RV_zero
  unfold RV at h
  injection h
def estV (K : Int) (P N : Nat) (x : Nat × Nat) : Rat := (((N : Nat) : Int) : Rat) * dGe K P x.2
theorem estV_RS {K : Int} {P N : Nat} {x : Nat × Nat} (hP : P ≤ 8) (hN : N ≤ 1048576) (hR : x.2 ≤ 1048576) : RS 9 (estV K P N x) := RS_mul (k := 1) (l := 8) (RS_one (by omega) (by omega)) (dGe_RS hP hR)
def sumE (K : Int) (P N : Nat) : List (Nat × Nat) → Rat
  | [] => 0
  | x :: X => estV K P N x + sumE K P N X
theorem sumE_snoc {K : Int} {P N : Nat} {x : Nat × Nat} : ∀ {X : List (Nat × Nat)}, sumE K P N (X ++ [x]) = sumE K P N X + estV K P N x := by
  intro X
  induction X with
  | nil => show estV K P N x + 0 = 0 + estV K P N x; grind
  | cons y Y ih =>
    show estV K P N y + sumE K P N (Y ++ [x]) = estV K P N y + sumE K P N Y + estV K P N x
    rw [ih]
    grind
theorem sumE_RS {K : Int} {P N : Nat} (hP : P ≤ 8) (hN : N ≤ 1048576) : ∀ {X : List (Nat × Nat)}, (∀ x ∈ X, x.2 ≤ 1048576) → RS (10 * X.length + 1) (sumE K P N X) := by
  intro X
  induction X with
  | nil => intro _; exact RS_one (a := 0) (by decide) (by decide)
  | cons x X ih =>
    intro h
    exact (RS_add (estV_RS hP hN (h x (by simp))) (ih fun y hy => h y (by simp [hy]))).mono (by rw [List.length_cons]; omega)
end Go.Proofs.Ytpkfddfkacijoaa

namespace Go.Proofs.Ytpkfddfkacijoaa
open Go.Eng Go.Vx
set_option linter.unusedSimpArgs false
set_option linter.unusedVariables false
set_option maxRecDepth 100000
theorem RS_small {z : Int} (h : z.natAbs < 18446744073709551616) : RS 1 (z : Rat) := RS_int (wg_one h) (by decide)
end Go.Proofs.Ytpkfddfkacijoaa
