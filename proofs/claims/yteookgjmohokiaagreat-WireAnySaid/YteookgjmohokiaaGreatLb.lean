import Derived.Test.YteookgjmohokiaaGreatE7
import Derived.Test.YteookgjmohokiaaGreatE8
import Derived.Test.YteookgjmohokiaaGreatSa
import Derived.Test.YteookgjmohokiaaGreatD2
import Derived.Test.YteookgjmohokiaaGreatN2
import Derived.Test.YteookgjmohokiaaGreatD1
namespace Go.Proofs.YteookgjmohokiaaGreat
open Go.Eng
set_option linter.unusedSimpArgs false
set_option linter.unusedVariables false
theorem cut_take {L : List Bool} (p w : Nat) : L.drop p = (L.drop p).take w ++ L.drop (p + w) := by
  rw [← List.drop_drop, List.take_append_drop]
theorem zl_take : ∀ l : List Bool, l.take (zl l) = List.replicate (zl l) false
  | [] => rfl
  | true :: l => rfl
  | false :: l => by
    show (false :: l).take (zl l + 1) = List.replicate (zl l + 1) false
    rw [List.take_succ_cons, zl_take l, List.replicate_succ]
theorem numBits_of {L : List Bool} {p w : Nat} (h : p + w ≤ L.length) : numBits (numOf ((L.drop p).take w)) w = (L.drop p).take w := by
  have hl : ((L.drop p).take w).length = w := by simp; omega
  have := numBits_numOf ((L.drop p).take w)
  rw [hl] at this
  exact this
theorem gX_way {L : List Bool} {p : Nat} (h : (gX L p).2.2 = 0) : L.drop p = gammaB (gX L p).1 ++ L.drop (gX L p).2.1 ∧ (gX L p).2.1 ≤ L.length ∧ p ≤ (gX L p).2.1 := by
  obtain ⟨k, hz⟩ : ∃ k, zr L p = k := ⟨_, rfl⟩
  by_cases h64 : 64 ≤ k
  · rw [(gX_form (by rw [hz]; exact h64)).1] at h; cases h
  by_cases he : L.length < p + 2 * k + 1
  · rw [(gX_end hz (by omega) he).1] at h; cases h
  rw [(gX_ok hz (by omega) (by omega)).1]
  dsimp only
  have ht : L.getD (p + k) false = true := by
    rw [← getD_drop', ← hz]
    exact zl_true _ (by have := hz; unfold zr at this; rw [this]; simp; omega)
  have hn := numOf_top (L := L) (q := p + k) (k := k) (by omega) ht
  have h2 : numOf ((L.drop (p + k + 1)).take k) < 2 ^ k := Nat.lt_of_lt_of_le (numOf_lt _) (Nat.pow_le_pow_right (by decide) (by simp; omega))
  have hb : bl (2 ^ k + numOf ((L.drop (p + k + 1)).take k)) = k + 1 := bl_eq (by omega) (by rw [Nat.pow_succ]; omega)
  have h3 := numBits_of (L := L) (p := p + k) (w := k + 1) (by omega)
  rw [hn] at h3
  refine ⟨?_, by omega, by omega⟩
  unfold gammaB
  have hzt : List.replicate k false = (L.drop p).take k := by rw [← hz]; exact (zl_take _).symm
  rw [hb, Nat.add_sub_cancel, h3, numBits_zero, hzt, List.append_assoc, show p + 2 * k + 1 = p + k + (k + 1) by omega, ← cut_take, ← cut_take]
theorem vXj_way {L : List Bool} : ∀ (j i p a : Nat), (vXj L j i p a).2.2 = 0 → ∃ n, (vXj L j i p a).1 = a + n * 2 ^ (7 * i) ∧ L.drop p = varB n ++ L.drop (vXj L j i p a).2.1 ∧ (vXj L j i p a).2.1 ≤ L.length ∧ p ≤ (vXj L j i p a).2.1 ∧ (0 < i → n ≠ 0)
  | 0, i, p, a, h => by cases h
  | j + 1, i, p, a, h => by
    by_cases h8 : p + 8 ≤ L.length
    · obtain ⟨x, hx⟩ : ∃ x, numOf ((L.drop p).take 8) = x := ⟨_, rfl⟩
      have hb := numBits_of (L := L) (p := p) (w := 8) h8
      have hlt : x < 256 := by rw [← hx]; exact Nat.lt_of_lt_of_le (numOf_lt _) (show 2 ^ ((L.drop p).take 8).length ≤ 2 ^ 8 from Nat.pow_le_pow_right (by decide) (by rw [List.length_take]; omega))
      rw [hx] at hb
      rw [vXj_ok h8 hx] at h ⊢
      by_cases c1 : (i = 9 ∧ 1 < x % 128) ∨ (0 < i ∧ x = 0)
      · rw [if_pos c1] at h; cases h
      rw [if_neg c1] at h ⊢
      by_cases c2 : x < 128
      · rw [if_pos c2]
        refine ⟨x, by dsimp only; rw [Nat.mod_eq_of_lt c2], ?_, h8, by dsimp only; omega, fun hi h0 => c1 (.inr ⟨hi, h0⟩)⟩
        rw [varB_lt c2, hb, ← cut_take]
      · rw [if_neg c2] at h ⊢
        obtain ⟨n, k1, k2, k3, k4, k5⟩ := vXj_way j (i + 1) (p + 8) (a + x % 128 * 2 ^ (7 * i)) h
        have hn := k5 (Nat.succ_pos i)
        refine ⟨x % 128 + 128 * n, ?_, ?_, k3, by omega, fun _ => by omega⟩
        · rw [k1, pow7_succ, Nat.add_mul, Nat.add_assoc]
          congr 2
          rw [← Nat.mul_assoc, Nat.mul_comm n 128]
        · rw [varB_ge (by omega), show (x % 128 + 128 * n) / 128 = n by omega, show 128 + (x % 128 + 128 * n) % 128 = x by omega, hb, List.append_assoc, ← k2, ← cut_take]
    · rw [vXj_end h8] at h; cases h
theorem vX_way {L : List Bool} {p : Nat} (h : (vX L p).2.2 = 0) : L.drop p = varB (vX L p).1 ++ L.drop (vX L p).2.1 ∧ (vX L p).2.1 ≤ L.length ∧ p ≤ (vX L p).2.1 := by
  obtain ⟨n, h1, h2, h3, h4, -⟩ := vXj_way 10 0 p 0 h
  have e : (vX L p).1 = n := by
    show (vXj L 10 0 p 0).1 = n
    rw [h1]; simp
  rw [e]
  exact ⟨h2, h3, h4⟩
end Go.Proofs.YteookgjmohokiaaGreat

namespace Go.Proofs.YteookgjmohokiaaGreat
open Go.Eng Go.Vx
set_option linter.unusedSimpArgs false
set_option linter.unusedVariables false
set_option maxRecDepth 100000
end Go.Proofs.YteookgjmohokiaaGreat

namespace Go.Proofs.YteookgjmohokiaaGreat
open Go.Eng Go.Vx
set_option linter.unusedSimpArgs false
set_option linter.unusedVariables false
set_option maxRecDepth 100000
end Go.Proofs.YteookgjmohokiaaGreat

namespace Go.Proofs.YteookgjmohokiaaGreat
open Go.Eng Go.Vx
set_option linter.unusedSimpArgs false
set_option linter.unusedVariables false
set_option maxRecDepth 100000
end Go.Proofs.YteookgjmohokiaaGreat

namespace Go.Proofs.YteookgjmohokiaaGreat
open Go.Eng Go.Vx
set_option linter.unusedSimpArgs false
set_option linter.unusedVariables false
set_option maxRecDepth 100000
def pwI (a n : Nat) (z : Nat × Nat × Nat) : Prop := ∃ i, z.1 = a ^ 2 ^ i ∧ z.2.1 = a ^ (n % 2 ^ i) ∧ z.2.2 = n / 2 ^ i
end Go.Proofs.YteookgjmohokiaaGreat

namespace Go.Proofs.YteookgjmohokiaaGreat
set_option linter.unusedVariables false
def nf (r : SS) : Prop := r.2.2 = false
def lvD (P : SP) : Nat → SS → DT SS
  | 0, st => .ret st
  | k + 1, st => (rsD P st.2.1 (-1) st.1 0 (0, 0)).bind fun r => lvD P k (r.1, st.2.1 + 1, st.2.2)
def togD (x y : SS) (i : Nat) : DT Cell :=
  (rndD (wth (x.1.getD i (0, 0)) x.2.1) (x.2.1 * max (x.1.getD i (0, 0)).2 (y.1.getD i (0, 0)).2)).bind fun n =>
  (rndD (wth (y.1.getD i (0, 0)) x.2.1) (x.2.1 * max (x.1.getD i (0, 0)).2 (y.1.getD i (0, 0)).2)).bind fun m => .ret (n + m, max (x.1.getD i (0, 0)).2 (y.1.getD i (0, 0)).2)
def mgD (P : SP) : Nat → Nat → SS → SS → DT SS
  | 0, _, x, y => .ret (x.1, x.2.1, x.2.2 || y.2.2)
  | k + 1, i, x, y => (lvD P (x.2.1 - y.2.1) y).bind fun y1 => (togD x y1 i).bind fun c => (fitD P i (fuelF P x.2.1 c.2) x c).bind fun x1 => mgD P k (i + 1) x1 y1
def mergeD (P : SP) (x y : SS) : DT SS := (lvD P (y.2.1 - x.2.1) x).bind fun x1 => mgD P x.1.length 0 x1 y
end Go.Proofs.YteookgjmohokiaaGreat

namespace Go.Proofs.YteookgjmohokiaaGreat
set_option linter.unusedSimpArgs false
set_option linter.unusedVariables false
variable {α : Type}
def DT.sub : DT α → List Bool → DT α
  | t, [] => t
  | .ret a, _ :: _ => .ret a
  | .ask f g, b :: bs => (if b then g else f).sub bs
theorem sub_ret (a : α) (L : List Bool) : (DT.ret a).sub L = .ret a := by cases L <;> rfl
def wkS (val : α → Nat) : DT α → Nat → Nat
  | .ret a, f => val a * 2 ^ f
  | .ask _ _, 0 => 0
  | .ask g h, f + 1 => wkS val g f + wkS val h f
def wkO : DT α → Nat → Bool
  | .ret _, _ => false
  | .ask _ _, 0 => true
  | .ask g h, f + 1 => wkO g f || wkO h f
def wkA (q : α → Bool) : DT α → Nat → Bool
  | .ret a, _ => q a
  | .ask _ _, 0 => false
  | .ask g h, f + 1 => wkA q g f || wkA q h f
def actsD (P : SP) (x y z : Nat) : DT SS :=
  (addD P ([(0, 0), (0, 0)], 1, false) 0 x).bind fun a => (addD P a 1 y).bind fun b => (addD P b 0 z).bind fun c => mergeD P c c
end Go.Proofs.YteookgjmohokiaaGreat

namespace Go.Proofs.YteookgjmohokiaaGreat
set_option linter.unusedVariables false
end Go.Proofs.YteookgjmohokiaaGreat

namespace Go.Proofs.YteookgjmohokiaaGreat
open Go.Eng Go.Vx
set_option linter.unusedSimpArgs false
set_option linter.unusedVariables false
set_option maxRecDepth 100000
def outV (N took : Nat) (e : Int) : V := .agg [.lit (.int .u64 (N : Int)), .lit (.int .i64 (took : Int)), .lit (.int .i64 e)]
attribute [go_sem] outV
end Go.Proofs.YteookgjmohokiaaGreat
