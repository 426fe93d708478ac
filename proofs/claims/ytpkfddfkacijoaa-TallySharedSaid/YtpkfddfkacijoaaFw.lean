import Derived.Test.YtpkfddfkacijoaaRa
import Derived.Test.YtpkfddfkacijoaaE6
import Derived.Test.YtpkfddfkacijoaaD1
import Derived.Test.YtpkfddfkacijoaaTb
namespace Go.Proofs.Ytpkfddfkacijoaa
open Go.Eng Go.Vx
set_option linter.unusedSimpArgs false
set_option linter.unusedVariables false
set_option maxRecDepth 100000
def dg (n : Nat) : List Nat := dgB 10000 n
def DV (n : Nat) : V := .row 1 ((nl (dg n)).map (ie .i64))
attribute [go_sem] DV
end Go.Proofs.Ytpkfddfkacijoaa

namespace Go.Proofs.Ytpkfddfkacijoaa
open Go.Eng Go.Vx
set_option linter.unusedSimpArgs false
set_option linter.unusedVariables false
set_option maxRecDepth 100000
def wv (W : List Nat) : Nat := valB 18446744073709551616 W
end Go.Proofs.Ytpkfddfkacijoaa

namespace Go.Proofs.Ytpkfddfkacijoaa
open Go.Eng Go.Vx
set_option linter.unusedSimpArgs false
set_option linter.unusedVariables false
set_option maxRecDepth 100000
end Go.Proofs.Ytpkfddfkacijoaa

namespace Go.Proofs.Ytpkfddfkacijoaa
open Go.Eng Go.Vx
set_option linter.unusedSimpArgs false
set_option linter.unusedVariables false
set_option maxRecDepth 100000
theorem belowR_end {L : List Bool} {n w : Nat} : ∀ f q, q ≤ L.length → q ≤ (belowR L n w f q).2.2.1 ∧ (belowR L n w f q).2.2.1 ≤ L.length
  | 0, q, h => ⟨h, Nat.le_refl _⟩
  | f + 1, q, h => by
    unfold belowR
    split
    · split
      · exact ⟨Nat.le_add_right _ _, by assumption⟩
      · obtain ⟨h1, h2⟩ := belowR_end (n := n) (w := w) f (q + w) (by assumption)
        exact ⟨by omega, h2⟩
    · exact ⟨h, Nat.le_refl _⟩
theorem belowX_end {L : List Bool} {n p : Nat} (h : p ≤ L.length) : p ≤ (belowX L n p).2.2.1 ∧ (belowX L n p).2.2.1 ≤ L.length := belowR_end _ _ h
theorem belowX_cases {L : List Bool} {n p : Nat} (hn : 0 < n) : belowX L n p = (0, 8, L.length, true) ∨ ∃ x q, x < n ∧ belowX L n p = (x, 0, q, false) := by
  unfold belowX
  generalize bl (n - 1) = w
  generalize L.length + 1 - p = f
  induction f generalizing p with
  | zero => exact .inl rfl
  | succ f ih =>
    unfold belowR
    split
    · split
      · rename_i h; exact .inr ⟨_, _, h, rfl⟩
      · exact ih
    · exact .inl rfl
def outV (N took : Nat) (e : Int) : V := .agg [.lit (.int .u64 (N : Int)), .lit (.int .i64 (took : Int)), .lit (.int .i64 e)]
attribute [go_sem] outV
end Go.Proofs.Ytpkfddfkacijoaa
