import Derived.Test.YtpkfddfkacijoaaGreatDoorWg
import Derived.Test.YtpkfddfkacijoaaGreatDoorLb
import Derived.Test.YtpkfddfkacijoaaGreatDoorFb
import Derived.Test.YtpkfddfkacijoaaGreatDoorE8
namespace Go.Proofs.YtpkfddfkacijoaaGreatDoor
open Go.Eng Go.Vx
set_option linter.unusedSimpArgs false
set_option linter.unusedVariables false
set_option maxRecDepth 100000
end Go.Proofs.YtpkfddfkacijoaaGreatDoor

namespace Go.Proofs.YtpkfddfkacijoaaGreatDoor
open Go.Eng Go.Vx
set_option linter.unusedSimpArgs false
set_option linter.unusedVariables false
set_option maxRecDepth 100000
end Go.Proofs.YtpkfddfkacijoaaGreatDoor

namespace Go.Proofs.YtpkfddfkacijoaaGreatDoor
set_option linter.unusedVariables false
inductive DT (α : Type) where
  | ret (a : α)
  | ask (f g : DT α)
variable {α β : Type}
def DT.bind : DT α → (α → DT β) → DT β
  | .ret a, k => k a
  | .ask f g, k => .ask (f.bind k) (g.bind k)
def DT.run (L : List Bool) : DT α → Nat → Option (α × Nat)
  | .ret a, p => some (a, p)
  | .ask f g, p => if p < L.length then (if L.getD p false then g.run L (p + 1) else f.run L (p + 1)) else none
def DT.mean (v : α → Rat) : DT α → Rat
  | .ret a => v a
  | .ask f g => (f.mean v + g.mean v) / 2
def DT.all (P : α → Prop) : DT α → Prop
  | .ret a => P a
  | .ask f g => f.all P ∧ g.all P
theorem run_ask {L : List Bool} {f g : DT α} {p : Nat} : (DT.ask f g).run L p = if p < L.length then (if L.getD p false then g.run L (p + 1) else f.run L (p + 1)) else none := rfl
theorem run_bind {L : List Bool} {k : α → DT β} : ∀ {t : DT α} {p : Nat}, (t.bind k).run L p = match t.run L p with | some (a, q) => (k a).run L q | none => none
  | .ret a, p => rfl
  | .ask f g, p => by
    rw [show (DT.ask f g).bind k = .ask (f.bind k) (g.bind k) from rfl, run_ask, run_ask]
    by_cases h : p < L.length
    · rw [if_pos h, if_pos h]
      cases L.getD p false
      · exact run_bind
      · exact run_bind
    · rw [if_neg h, if_neg h]
def ratD (D : Nat) : Nat → Nat → DT Bool
  | 0, _ => .ret false
  | f + 1, r => if D ≤ r + r then .ask (.ret true) (if r + r - D = 0 then .ret false else ratD D f (r + r - D)) else .ask (if r + r = 0 then .ret false else ratD D f (r + r)) (.ret false)
def bit (b : Bool) : Nat := if b then 1 else 0
def vb (b : Bool) : Rat := ((bit b : Nat) : Int)
def rndD (n k : Nat) : DT Nat := if n % 2 ^ k = 0 then .ret (n / 2 ^ k) else (ratD (2 ^ k) k (n % 2 ^ k)).bind fun b => .ret (n / 2 ^ k + bit b)
def vn (n : Nat) : Rat := ((n : Nat) : Int)
theorem vn_mul (a b : Nat) : vn (a * b) = vn a * vn b := by unfold vn; simp
theorem vn_add (a b : Nat) : vn (a + b) = vn a + vn b := by unfold vn; simp
end Go.Proofs.YtpkfddfkacijoaaGreatDoor

namespace Go.Proofs.YtpkfddfkacijoaaGreatDoor
open Go.Eng Go.Vx
set_option linter.unusedSimpArgs false
set_option linter.unusedVariables false
set_option maxRecDepth 100000
def out10 (p : Nat) (r : Bool × Int × Nat × Bool) : V := .agg [.lit (.bool r.1), .lit (.int .i64 ((r.2.2.1 : Int) - (p : Int))), .lit (.int .i64 r.2.1)]
attribute [go_sem] out10
end Go.Proofs.YtpkfddfkacijoaaGreatDoor

namespace Go.Proofs.YtpkfddfkacijoaaGreatDoor
open Go.Eng Go.Vx
set_option linter.unusedSimpArgs false
set_option linter.unusedVariables false
set_option maxRecDepth 100000
def okR (L : List Bool) (p : Nat) (r : Bool × Int × Nat × Bool) : Prop := r = (false, 8, L.length, true) ∨ ∃ b e q, r = (b, e, q, false) ∧ e ≠ 8 ∧ p ≤ q ∧ q ≤ L.length
end Go.Proofs.YtpkfddfkacijoaaGreatDoor

namespace Go.Proofs.YtpkfddfkacijoaaGreatDoor
open Go.Eng Go.Vx
set_option linter.unusedSimpArgs false
set_option linter.unusedVariables false
set_option maxRecDepth 100000
theorem RS_one {a : Int} (h0 : -9223372036854775808 ≤ a) (h1 : a ≤ 9223372036854775807) : RS 1 (a : Rat) := RS_int (wg_int h0 h1) (by decide)
end Go.Proofs.YtpkfddfkacijoaaGreatDoor
