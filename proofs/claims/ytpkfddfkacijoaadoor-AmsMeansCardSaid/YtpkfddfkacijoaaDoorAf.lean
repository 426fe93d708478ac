import Derived.Test.YtpkfddfkacijoaaDoorAe
import Derived.Test.YtpkfddfkacijoaaDoorRi
import Derived.Test.YtpkfddfkacijoaaDoorFb
namespace Go.Proofs.YtpkfddfkacijoaaDoor
open Go.Eng Go.Vx
set_option linter.unusedSimpArgs false
set_option linter.unusedVariables false
set_option maxRecDepth 100000
def rfC (X : List (Nat × Nat)) (N : Nat) (L : List Bool) (p : Nat) (e : Int) : List V := [.row 2 (X.map sV), .lit (.int .i64 (N : Int)), .row 1 (L.map be), .lit (.int .i64 (p : Int)), .lit (.int .i64 e)]
def rfV (X : List (Nat × Nat)) (N : Nat) (L : List Bool) (p : Nat) (e : Int) : V := .agg (rfC X N L p e)
attribute [go_sem] rfC rfV
def updX (L : List Bool) (N key : Nat) (X : List (Nat × Nat)) (p : Nat) : List (Nat × Nat) × Nat × Int := match updL L (N + 1) key X p with | some r => (r.1, r.2, 0) | none => (X, L.length, 8)
end Go.Proofs.YtpkfddfkacijoaaDoor

namespace Go.Proofs.YtpkfddfkacijoaaDoor
set_option linter.unusedSimpArgs false
set_option linter.unusedVariables false
variable {α : Type}
def DT.sub : DT α → List Bool → DT α
  | t, [] => t
  | .ret a, _ :: _ => .ret a
  | .ask f g, b :: bs => (if b then g else f).sub bs
theorem sub_ret (a : α) (L : List Bool) : (DT.ret a).sub L = .ret a := by cases L <;> rfl
theorem sub_snoc (b : Bool) : ∀ (L : List Bool) (t : DT α), t.sub (L ++ [b]) = (t.sub L).sub [b] := by
  intro L
  induction L with
  | nil => intro t; rfl
  | cons c L ih =>
    intro t
    cases t with
    | ret a => rw [sub_ret, sub_ret, sub_ret]
    | ask f g => exact ih _
theorem run_drop {L : List Bool} : ∀ (t : DT α) (p : Nat), (match t.run L p with | some (a, _) => t.sub (L.drop p) = .ret a | none => ∃ f g, t.sub (L.drop p) = .ask f g)
  | .ret a, p => by
    show (DT.ret a).sub (L.drop p) = .ret a
    exact sub_ret _ _
  | .ask f g, p => by
    rw [run_ask]
    by_cases h : p < L.length
    · rw [if_pos h]
      have e : L.drop p = L.getD p false :: L.drop (p + 1) := by
        rw [List.drop_eq_getElem_cons h]
        congr 1
        simp [List.getD_eq_getElem?_getD, h]
      rw [e]
      cases hb : L.getD p false with
      | true => exact run_drop g (p + 1)
      | false => exact run_drop f (p + 1)
    · rw [if_neg h, List.drop_eq_nil_of_le (by omega)]
      exact ⟨f, g, rfl⟩
theorem run_some {L : List Bool} {t : DT α} {a : α} {q : Nat} (h : t.run L 0 = some (a, q)) : t.sub L = .ret a := by
  have := run_drop (L := L) t 0
  rw [h] at this
  exact this
theorem run_none {L : List Bool} {t : DT α} (h : t.run L 0 = none) : ∃ f g, t.sub L = .ask f g := by
  have := run_drop (L := L) t 0
  rw [h] at this
  exact this
def wkS (val : α → Nat) : DT α → Nat → Nat
  | .ret a, f => val a * 2 ^ f
  | .ask _ _, 0 => 0
  | .ask g h, f + 1 => wkS val g f + wkS val h f
def wkO : DT α → Nat → Bool
  | .ret _, _ => false
  | .ask _ _, 0 => true
  | .ask g h, f + 1 => wkO g f || wkO h f
def wkA (q : α → Bool) : DT α → Nat → Bool
  | .ret a, _ => q a
  | .ask _ _, 0 => false
  | .ask g h, f + 1 => wkA q g f || wkA q h f
def actsD (P : SP) (x y z : Nat) : DT SS :=
  (addD P ([(0, 0), (0, 0)], 1, false) 0 x).bind fun a => (addD P a 1 y).bind fun b => (addD P b 0 z).bind fun c => mergeD P c c
end Go.Proofs.YtpkfddfkacijoaaDoor
