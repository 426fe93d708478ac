import Derived.Test.YteookgjmohokiaaGreatD2
import Derived.Test.YteookgjmohokiaaGreatFa
import Derived.Test.YteookgjmohokiaaGreatD1
namespace Go.Proofs.YteookgjmohokiaaGreat
open Go.Eng Go.Vx
set_option linter.unusedSimpArgs false
set_option linter.unusedVariables false
set_option maxRecDepth 100000
end Go.Proofs.YteookgjmohokiaaGreat

namespace Go.Proofs.YteookgjmohokiaaGreat
open Go.Eng Go.Vx
set_option linter.unusedSimpArgs false
set_option linter.unusedVariables false
set_option maxRecDepth 100000
def rndX (L : List Bool) (n d p : Nat) : Int × Int × Nat × Bool :=
  let r := ratX L (n % d) d p
  (if r.2.1 = 0 then ((n / d + (if r.1 then 1 else 0) : Nat) : Int) else 0, r.2.1, r.2.2.1, r.2.2.2)
end Go.Proofs.YteookgjmohokiaaGreat

namespace Go.Proofs.YteookgjmohokiaaGreat
set_option linter.unusedVariables false
inductive DT (α : Type) where
  | ret (a : α)
  | ask (f g : DT α)
variable {α β : Type}
def DT.bind : DT α → (α → DT β) → DT β
  | .ret a, k => k a
  | .ask f g, k => .ask (f.bind k) (g.bind k)
def DT.run (L : List Bool) : DT α → Nat → Option (α × Nat)
  | .ret a, p => some (a, p)
  | .ask f g, p => if p < L.length then (if L.getD p false then g.run L (p + 1) else f.run L (p + 1)) else none
def DT.mean (v : α → Rat) : DT α → Rat
  | .ret a => v a
  | .ask f g => (f.mean v + g.mean v) / 2
def DT.all (P : α → Prop) : DT α → Prop
  | .ret a => P a
  | .ask f g => f.all P ∧ g.all P
theorem run_ask {L : List Bool} {f g : DT α} {p : Nat} : (DT.ask f g).run L p = if p < L.length then (if L.getD p false then g.run L (p + 1) else f.run L (p + 1)) else none := rfl
theorem run_bind {L : List Bool} {k : α → DT β} : ∀ {t : DT α} {p : Nat}, (t.bind k).run L p = match t.run L p with | some (a, q) => (k a).run L q | none => none
  | .ret a, p => rfl
  | .ask f g, p => by
    rw [show (DT.ask f g).bind k = .ask (f.bind k) (g.bind k) from rfl, run_ask, run_ask]
    by_cases h : p < L.length
    · rw [if_pos h, if_pos h]
      cases L.getD p false
      · exact run_bind
      · exact run_bind
    · rw [if_neg h, if_neg h]
def ratD (D : Nat) : Nat → Nat → DT Bool
  | 0, _ => .ret false
  | f + 1, r => if D ≤ r + r then .ask (.ret true) (if r + r - D = 0 then .ret false else ratD D f (r + r - D)) else .ask (if r + r = 0 then .ret false else ratD D f (r + r)) (.ret false)
def bit (b : Bool) : Nat := if b then 1 else 0
def vb (b : Bool) : Rat := ((bit b : Nat) : Int)
def rndD (n k : Nat) : DT Nat := if n % 2 ^ k = 0 then .ret (n / 2 ^ k) else (ratD (2 ^ k) k (n % 2 ^ k)).bind fun b => .ret (n / 2 ^ k + bit b)
def vn (n : Nat) : Rat := ((n : Nat) : Int)
theorem vn_mul (a b : Nat) : vn (a * b) = vn a * vn b := by unfold vn; simp
theorem vn_add (a b : Nat) : vn (a + b) = vn a + vn b := by unfold vn; simp
end Go.Proofs.YteookgjmohokiaaGreat

namespace Go.Proofs.YteookgjmohokiaaGreat
open Go.Eng Go.Vx
set_option linter.unusedSimpArgs false
set_option linter.unusedVariables false
set_option maxRecDepth 100000
def out10 (p : Nat) (r : Bool × Int × Nat × Bool) : V := .agg [.lit (.bool r.1), .lit (.int .i64 ((r.2.2.1 : Int) - (p : Int))), .lit (.int .i64 r.2.1)]
attribute [go_sem] out10
end Go.Proofs.YteookgjmohokiaaGreat

namespace Go.Proofs.YteookgjmohokiaaGreat
open Go.Eng Go.Vx
set_option linter.unusedSimpArgs false
set_option linter.unusedVariables false
set_option maxRecDepth 100000
def okR (L : List Bool) (p : Nat) (r : Bool × Int × Nat × Bool) : Prop := r = (false, 8, L.length, true) ∨ ∃ b e q, r = (b, e, q, false) ∧ e ≠ 8 ∧ p ≤ q ∧ q ≤ L.length
end Go.Proofs.YteookgjmohokiaaGreat

namespace Go.Proofs.YteookgjmohokiaaGreat
set_option linter.unusedVariables false
structure SP where
  m : Nat
  d : Nat
  s : Nat
abbrev Cell := Nat × Nat
abbrev SS := List Cell × Nat × Bool
def wth (c : Cell) (s : Nat) : Nat := c.1 * 2 ^ (s * c.2)
def putS (c : Cell) : Cell := if c.1 = 0 then (c.1, 0) else c
def upD (c : Cell) (s : Nat) : DT Cell := (rndD c.1 s).bind fun n => .ret (n, c.2 + 1)
def modeOf (P : SP) (v s : Nat) : Nat → Nat → Nat
  | 0, m => m
  | f + 1, m => if m < P.d ∧ P.m < v / 2 ^ (s * m) then modeOf P v s f (m + 1) else m
def scD (P : SP) (v s : Nat) : DT Cell := (rndD v (s * modeOf P v s P.d 0)).bind fun n => .ret (n, modeOf P v s P.d 0)
def reD (P : SP) (was : Nat) (c : Cell) : DT Cell := (scD P (wth c was) (was + 1)).bind fun c1 => if P.m < c1.1 then upD c1 (was + 1) else .ret c1
def rsD (P : SP) (was : Nat) (i : Int) : List Cell → Nat → Cell → DT (List Cell × Cell)
  | [], _, own => .ret ([], own)
  | c :: cs, k, own => if (k : Int) = i then (scD P (wth own was) (was + 1)).bind fun o => (rsD P was i cs (k + 1) o).bind fun r => .ret (c :: r.1, r.2)
      else (reD P was c).bind fun c1 => (rsD P was i cs (k + 1) own).bind fun r => .ret (putS c1 :: r.1, r.2)
def fitD (P : SP) (i : Nat) : Nat → SS → Cell → DT SS
  | 0, st, c => .ret (st.1, st.2.1, true)
  | f + 1, st, c => if c.1 ≤ P.m then .ret (st.1.set i (putS c), st.2) else
      if c.2 < P.d then (upD c st.2.1).bind fun c1 => fitD P i f st c1 else
      if st.2.1 < P.s then (rsD P st.2.1 i st.1 0 c).bind fun r => fitD P i f (r.1, st.2.1 + 1, st.2.2) r.2 else
      .ret (st.1.set i (putS (P.m, c.2)), st.2.1, true)
def fuelF (P : SP) (s m : Nat) : Nat := (P.s - s) * (P.d + 2) + (P.d - m) + 2
def addD (P : SP) (st : SS) (i n : Nat) : DT SS :=
  (rndD n (st.2.1 * (st.1.getD i (0, 0)).2)).bind fun by' => fitD P i (fuelF P st.2.1 (st.1.getD i (0, 0)).2) st ((st.1.getD i (0, 0)).1 + by', (st.1.getD i (0, 0)).2)
def wvS (c : Cell) (s : Nat) : Rat := vn (wth c s)
def wl (l : List Cell) (s j : Nat) : Rat := wvS (l.getD j (0, 0)) s
end Go.Proofs.YteookgjmohokiaaGreat
