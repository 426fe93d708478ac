import Derived.Test.YtpkfddfkacijoaaFa
import Derived.Test.YtpkfddfkacijoaaZ3
import Derived.Test.YtpkfddfkacijoaaT1
import Derived.Test.YtpkfddfkacijoaaFw
import Derived.Test.YtpkfddfkacijoaaD3
import Derived.Test.YtpkfddfkacijoaaN1
namespace Go.Proofs.Ytpkfddfkacijoaa
open Go.Eng Go.Vx
set_option linter.unusedSimpArgs false
set_option linter.unusedVariables false
set_option maxRecDepth 100000
def goodB (P D : Nat) : Prop := ¬ (D = 0 ∨ D < P)
def powR (L : List Bool) (P D : Nat) : Nat → Nat → Bool × Int × Nat × Bool
  | 0, p => (true, 0, p, false)
  | k + 1, p => if (ratX L P D p).1 then powR L P D k (ratX L P D p).2.2.1 else ratX L P D p
def powX (L : List Bool) (P D K p : Nat) : Bool × Int × Nat × Bool := if D = 0 ∨ D < P then (false, 2, p, false) else powR L P D K p
end Go.Proofs.Ytpkfddfkacijoaa

namespace Go.Proofs.Ytpkfddfkacijoaa
open Go.Eng Go.Vx
set_option linter.unusedSimpArgs false
set_option linter.unusedVariables false
set_option maxRecDepth 100000
def out10 (p : Nat) (r : Bool × Int × Nat × Bool) : V := .agg [.lit (.bool r.1), .lit (.int .i64 ((r.2.2.1 : Int) - (p : Int))), .lit (.int .i64 r.2.1)]
attribute [go_sem] out10
end Go.Proofs.Ytpkfddfkacijoaa

namespace Go.Proofs.Ytpkfddfkacijoaa
open Go.Eng Go.Vx
set_option linter.unusedSimpArgs false
set_option linter.unusedVariables false
set_option maxRecDepth 100000
def okR (L : List Bool) (p : Nat) (r : Bool × Int × Nat × Bool) : Prop := r = (false, 8, L.length, true) ∨ ∃ b e q, r = (b, e, q, false) ∧ e ≠ 8 ∧ p ≤ q ∧ q ≤ L.length
end Go.Proofs.Ytpkfddfkacijoaa

namespace Go.Proofs.Ytpkfddfkacijoaa
open Go.Eng Go.Vx
set_option linter.unusedSimpArgs false
set_option linter.unusedVariables false
set_option maxRecDepth 100000
theorem num_nonnegR {A B : Nat} (hB : B ≠ 0) : ¬ (((A : Int) : Rat) / ((B : Int) : Rat)).num < 0 := by
  have h := frac_eq (p := (A : Int)) (q := (B : Int)) (by omega)
  rw [decide_eq_false (show ¬ (A : Int) < 0 by omega), decide_eq_false (show ¬ (B : Int) < 0 by omega)] at h
  rw [← h]
  exact mk_nonneg hB
theorem RS_one {a : Int} (h0 : -9223372036854775808 ≤ a) (h1 : a ≤ 9223372036854775807) : RS 1 (a : Rat) := RS_int (wg_int h0 h1) (by decide)
end Go.Proofs.Ytpkfddfkacijoaa

namespace Go.Proofs.Ytpkfddfkacijoaa
open Go.Eng Go.Vx
set_option linter.unusedSimpArgs false
set_option linter.unusedVariables false
set_option maxRecDepth 100000
theorem ws_nat {l : List Int} (h : ∀ x ∈ l, 0 ≤ x ∧ x ≤ 18446744073709551615) : ∃ W : List Nat, l = nl W ∧ ∀ d ∈ W, d < 18446744073709551616 := by
  refine ⟨l.map Int.toNat, ?_, fun d hd => ?_⟩
  · unfold nl
    rw [List.map_map]
    conv => lhs; rw [← List.map_id l]
    exact List.map_congr_left fun x hx => by have := h x hx; simp; omega
  · obtain ⟨x, hx, rfl⟩ := List.mem_map.1 hd
    have := h x hx
    omega
theorem cmpI_gt {a b : Nat} (h : b < a) : cmpI a b = 1 := by unfold cmpI; rw [if_neg (by omega), if_pos h]
end Go.Proofs.Ytpkfddfkacijoaa
