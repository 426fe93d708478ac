import Derived.Test.YtpkfddfkacijoaaSc
namespace Go.Proofs.Ytpkfddfkacijoaa
set_option linter.unusedVariables false
def nf (r : SS) : Prop := r.2.2 = false
theorem len_fit (P : SP) (i : Nat) : ∀ (f : Nat) (st : SS) (c : Cell), (fitD P i f st c).all (fun r => r.1.length = st.1.length ∧ (st.2.2 = true → r.2.2 = true)) := by
  intro f
  induction f with
  | zero => intro st c; exact ⟨rfl, fun _ => rfl⟩
  | succ f ih =>
    intro st c
    unfold fitD
    split
    · exact ⟨List.length_set, fun h => h⟩
    · split
      · rw [all_bind]; exact all_true fun c1 => ih st c1
      · split
        · rw [all_bind]
          refine all_mono (fun r hr => all_mono (fun q hq => ⟨hq.1.trans hr, hq.2⟩) (ih (r.1, st.2.1 + 1, st.2.2) r.2)) (mean_rs P st.2.1 i st.1 0 c).2.2.2
        · exact ⟨List.length_set, fun _ => rfl⟩
def lvD (P : SP) : Nat → SS → DT SS
  | 0, st => .ret st
  | k + 1, st => (rsD P st.2.1 (-1) st.1 0 (0, 0)).bind fun r => lvD P k (r.1, st.2.1 + 1, st.2.2)
def togD (x y : SS) (i : Nat) : DT Cell :=
  (rndD (wth (x.1.getD i (0, 0)) x.2.1) (x.2.1 * max (x.1.getD i (0, 0)).2 (y.1.getD i (0, 0)).2)).bind fun n =>
  (rndD (wth (y.1.getD i (0, 0)) x.2.1) (x.2.1 * max (x.1.getD i (0, 0)).2 (y.1.getD i (0, 0)).2)).bind fun m => .ret (n + m, max (x.1.getD i (0, 0)).2 (y.1.getD i (0, 0)).2)
def mgD (P : SP) : Nat → Nat → SS → SS → DT SS
  | 0, _, x, y => .ret (x.1, x.2.1, x.2.2 || y.2.2)
  | k + 1, i, x, y => (lvD P (x.2.1 - y.2.1) y).bind fun y1 => (togD x y1 i).bind fun c => (fitD P i (fuelF P x.2.1 c.2) x c).bind fun x1 => mgD P k (i + 1) x1 y1
def mergeD (P : SP) (x y : SS) : DT SS := (lvD P (y.2.1 - x.2.1) x).bind fun x1 => mgD P x.1.length 0 x1 y
end Go.Proofs.Ytpkfddfkacijoaa

namespace Go.Proofs.Ytpkfddfkacijoaa
set_option linter.unusedSimpArgs false
set_option linter.unusedVariables false
variable {α : Type}
def DT.sub : DT α → List Bool → DT α
  | t, [] => t
  | .ret a, _ :: _ => .ret a
  | .ask f g, b :: bs => (if b then g else f).sub bs
theorem sub_ret (a : α) (L : List Bool) : (DT.ret a).sub L = .ret a := by cases L <;> rfl
theorem sub_snoc (b : Bool) : ∀ (L : List Bool) (t : DT α), t.sub (L ++ [b]) = (t.sub L).sub [b] := by
  intro L
  induction L with
  | nil => intro t; rfl
  | cons c L ih =>
    intro t
    cases t with
    | ret a => rw [sub_ret, sub_ret, sub_ret]
    | ask f g => exact ih _
theorem run_drop {L : List Bool} : ∀ (t : DT α) (p : Nat), (match t.run L p with | some (a, _) => t.sub (L.drop p) = .ret a | none => ∃ f g, t.sub (L.drop p) = .ask f g)
  | .ret a, p => by
    show (DT.ret a).sub (L.drop p) = .ret a
    exact sub_ret _ _
  | .ask f g, p => by
    rw [run_ask]
    by_cases h : p < L.length
    · rw [if_pos h]
      have e : L.drop p = L.getD p false :: L.drop (p + 1) := by
        rw [List.drop_eq_getElem_cons h]
        congr 1
        simp [List.getD_eq_getElem?_getD, h]
      rw [e]
      cases hb : L.getD p false with
      | true => exact run_drop g (p + 1)
      | false => exact run_drop f (p + 1)
    · rw [if_neg h, List.drop_eq_nil_of_le (by omega)]
      exact ⟨f, g, rfl⟩
theorem run_some {L : List Bool} {t : DT α} {a : α} {q : Nat} (h : t.run L 0 = some (a, q)) : t.sub L = .ret a := by
  have := run_drop (L := L) t 0
  rw [h] at this
  exact this
theorem run_none {L : List Bool} {t : DT α} (h : t.run L 0 = none) : ∃ f g, t.sub L = .ask f g := by
  have := run_drop (L := L) t 0
  rw [h] at this
  exact this
def wkS (val : α → Nat) : DT α → Nat → Nat
  | .ret a, f => val a * 2 ^ f
  | .ask _ _, 0 => 0
  | .ask g h, f + 1 => wkS val g f + wkS val h f
def wkO : DT α → Nat → Bool
  | .ret _, _ => false
  | .ask _ _, 0 => true
  | .ask g h, f + 1 => wkO g f || wkO h f
def wkA (q : α → Bool) : DT α → Nat → Bool
  | .ret a, _ => q a
  | .ask _ _, 0 => false
  | .ask g h, f + 1 => wkA q g f || wkA q h f
def actsD (P : SP) (x y z : Nat) : DT SS :=
  (addD P ([(0, 0), (0, 0)], 1, false) 0 x).bind fun a => (addD P a 1 y).bind fun b => (addD P b 0 z).bind fun c => mergeD P c c
end Go.Proofs.Ytpkfddfkacijoaa
