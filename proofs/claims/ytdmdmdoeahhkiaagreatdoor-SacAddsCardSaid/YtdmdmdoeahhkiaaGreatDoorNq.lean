import Derived.Test.YtdmdmdoeahhkiaaGreatDoorTb
import Derived.Test.YtdmdmdoeahhkiaaGreatDoorFw
import Derived.Test.YtdmdmdoeahhkiaaGreatDoorSb
import Derived.Test.YtdmdmdoeahhkiaaGreatDoorD3
import Derived.Test.YtdmdmdoeahhkiaaGreatDoorSc
namespace Go.Proofs.YtdmdmdoeahhkiaaGreatDoor
open Go.Eng Go.Vx
set_option linter.unusedSimpArgs false
set_option linter.unusedVariables false
set_option maxRecDepth 100000
end Go.Proofs.YtdmdmdoeahhkiaaGreatDoor

namespace Go.Proofs.YtdmdmdoeahhkiaaGreatDoor
open Go.Eng Go.Vx
set_option linter.unusedSimpArgs false
set_option linter.unusedVariables false
set_option maxRecDepth 100000
theorem rndX_scale {L : List Bool} {a b g p : Nat} (hg : 0 < g) : rndX L (g * a) (g * b) p = rndX L a b p := by
  unfold rndX
  rw [Nat.mul_mod_mul_left, Nat.mul_div_mul_left _ _ hg, ratX_scale hg]
theorem rndX_frac {L : List Bool} {A B p : Nat} (hB : B ≠ 0) : rndX L (((A : Int) : Rat) / ((B : Int) : Rat)).num.natAbs (((A : Int) : Rat) / ((B : Int) : Rat)).den p = rndX L A B p := by
  have h := frac_eq (p := (A : Int)) (q := (B : Int)) (by omega)
  rw [decide_eq_false (show ¬ (A : Int) < 0 by omega), decide_eq_false (show ¬ (B : Int) < 0 by omega)] at h
  rw [← h, Int.natAbs_natCast, Int.natAbs_natCast]
  show rndX L (mkRat (A : Int) B).num.natAbs (mkRat (A : Int) B).den p = _
  rw [mkRat_numG hB, mkRat_denG hB, sg_abs, Int.natAbs_natCast]
  have hg : 0 < Nat.gcd A B := Nat.gcd_pos_of_pos_right _ (by omega)
  have h2 := rndX_scale (L := L) (a := A / Nat.gcd A B) (b := B / Nat.gcd A B) (p := p) hg
  rw [Nat.mul_div_cancel' (Nat.gcd_dvd_left A B), Nat.mul_div_cancel' (Nat.gcd_dvd_right A B)] at h2
  exact h2.symm
theorem frac_bounds {A B : Nat} (hB : B ≠ 0) (hA : A ≤ 1099511627776) : ¬ ((A : Int) : Rat) / ((B : Int) : Rat) < 0 ∧ ¬ ((1099511627776 : Int) : Rat) < ((A : Int) : Rat) / ((B : Int) : Rat) := by
  have hB' : (0 : Rat) < ((B : Int) : Rat) := Rat.intCast_pos.2 (by omega)
  constructor
  · rw [Rat.not_lt, ← Rat.num_nonneg]
    have := num_nonnegR (A := A) hB
    omega
  · rw [Rat.lt_div_iff hB', ← Rat.intCast_mul, Rat.intCast_lt_intCast]
    have := Nat.mul_le_mul_left 1099511627776 (show 1 ≤ B by omega)
    omega
end Go.Proofs.YtdmdmdoeahhkiaaGreatDoor

namespace Go.Proofs.YtdmdmdoeahhkiaaGreatDoor
open Go.Eng Go.Vx
set_option linter.unusedSimpArgs false
set_option linter.unusedVariables false
set_option maxRecDepth 100000
theorem shl_fn {v N : Nat} (hN : N ≤ 8192) (hv : (wg v).length ≤ 1000000) : Fn1 Tryz.prog 140 [NV v, .lit (.int .i64 (N : Int))] [] (.tup [NV (v * 2 ^ N), .lit (.int .i64 0)]) [] := by
  refine fn1N_of pl140 (by kernel_rfl) Tryz.call140 Tryz.func140 rfl (by kernel_rfl) rfl [.cell 4 42, .tmp 5] (by kernel_rfl) fun Q hQ => ?_
  have hnl := nl_len (wg v)
  have hq : (N : Int) / 64 = ((N / 64 : Nat) : Int) := by omega
  have hs : (N : Int) % 64 = ((N % 64 : Nat) : Int) := by omega
  have hm := moved_fn (W := wg v) (s := N % 64) (wg_lt v) (by omega) (by omega)
  rw [wg_val] at hm
  have hF := fw_len (B := 18446744073709551616) ((wg v).length + 1) (v * 2 ^ (N % 64))
  have hFl := fw_lt (B := 18446744073709551616) (by decide) ((wg v).length + 1) (v * 2 ^ (N % 64))
  have hFv : valB 18446744073709551616 (fw 18446744073709551616 ((wg v).length + 1) (v * 2 ^ (N % 64))) = v * 2 ^ (N % 64) := by
    rw [fw_val (by decide), Nat.mod_eq_of_lt]
    have h1 : v < 18446744073709551616 ^ (wg v).length := dgB_lt_pow (B := 18446744073709551616) (by decide) v
    have h2 : 2 ^ (N % 64) ≤ 18446744073709551616 := by
      rw [show (18446744073709551616 : Nat) = 2 ^ 64 from rfl]
      exact Nat.pow_le_pow_right (by decide) (by omega)
    rw [Nat.pow_succ]
    exact Nat.lt_of_lt_of_le (Nat.mul_lt_mul_of_pos_right h1 (Nat.pow_pos (by decide))) (Nat.mul_le_mul_left _ h2)
  have hval : valB 18446744073709551616 (List.replicate (N / 64) 0 ++ fw 18446744073709551616 ((wg v).length + 1) (v * 2 ^ (N % 64))) = v * 2 ^ N := by
    rw [valB_app, valB_rep, List.length_replicate, Nat.zero_add, hFv, show (18446744073709551616 : Nat) = 2 ^ 64 from rfl, ← Nat.pow_mul, Nat.mul_left_comm, ← Nat.pow_add, Nat.div_add_mod]
  have hall : ∀ d ∈ List.replicate (N / 64) 0 ++ fw 18446744073709551616 ((wg v).length + 1) (v * 2 ^ (N % 64)), d < 18446744073709551616 := fun d hd => by
    rcases List.mem_append.1 hd with h | h
    · rw [List.eq_of_mem_replicate h]; decide
    · exact hFl d h
  have hlen : (List.replicate (N / 64) 0 ++ fw 18446744073709551616 ((wg v).length + 1) (v * 2 ^ (N % 64))).length ≤ 4000000 := by
    rw [List.length_append, List.length_replicate, hF]; omega
  have hsplit : nl (List.replicate (N / 64) 0 ++ fw 18446744073709551616 ((wg v).length + 1) (v * 2 ^ (N % 64))) = nl (List.replicate (N / 64) 0) ++ nl (fw 18446744073709551616 ((wg v).length + 1) (v * 2 ^ (N % 64))) := by unfold nl; rw [List.map_append]
  have hrep := nl_rep (N / 64)
  generalize fw 18446744073709551616 ((wg v).length + 1) (v * 2 ^ (N % 64)) = F at *
  clear hFv
  generalize N / 64 = q at *
  generalize N % 64 = s at *
  have hnF := nl_len F
  rw [← hF] at hm
  simp (maxSteps := 1000000) (disch := (first | omega | (simp only [lnA, List.length_map, List.length_range, true_and, and_true]; (try omega); done) | fail)) only [go_sem, hq, hs, Int.reduceEq, Int.reduceToNat, Nat.reduceAdd, Nat.reduceMul, Nat.reduceEqDiff, ↓reduceIte]
  refine callF (hm) ?_
  have htk : List.take F.length (nl F) = nl F := List.take_of_length_le (by omega)
  have happ : List.map (ie .u64) (List.replicate q 0 ++ nl F) = List.map (ie .u64) (nl (List.replicate q 0 ++ F)) := by
    rw [hsplit, hrep]
  have hll : q + (nl F).length = (List.replicate q 0 ++ F).length := by rw [List.length_append, List.length_replicate, hnF]
  simp (maxSteps := 1000000) (disch := (first | omega | (simp only [lnA, List.length_map, List.length_range, true_and, and_true]; (try omega); done) | fail)) only [go_sem, hq, hs, htk, happ, hll, Int.reduceEq, Int.reduceToNat, Nat.reduceAdd, Nat.reduceMul, Nat.reduceEqDiff, ↓reduceIte]
  have hnl4 := nl_len (List.replicate q 0 ++ F)
  refine callW [] [4] (trimmed_fn (l := List.replicate q 0 ++ F) hall hlen) ?_
  rw [hval]
  refine runW ?_
  exact endW [] hQ
end Go.Proofs.YtdmdmdoeahhkiaaGreatDoor

namespace Go.Proofs.YtdmdmdoeahhkiaaGreatDoor
set_option linter.unusedVariables false
def nf (r : SS) : Prop := r.2.2 = false
theorem len_fit (P : SP) (i : Nat) : ∀ (f : Nat) (st : SS) (c : Cell), (fitD P i f st c).all (fun r => r.1.length = st.1.length ∧ (st.2.2 = true → r.2.2 = true)) := by
  intro f
  induction f with
  | zero => intro st c; exact ⟨rfl, fun _ => rfl⟩
  | succ f ih =>
    intro st c
    unfold fitD
    split
    · exact ⟨List.length_set, fun h => h⟩
    · split
      · rw [all_bind]; exact all_true fun c1 => ih st c1
      · split
        · rw [all_bind]
          refine all_mono (fun r hr => all_mono (fun q hq => ⟨hq.1.trans hr, hq.2⟩) (ih (r.1, st.2.1 + 1, st.2.2) r.2)) (mean_rs P st.2.1 i st.1 0 c).2.2.2
        · exact ⟨List.length_set, fun _ => rfl⟩
theorem len_add (P : SP) (st : SS) (i n : Nat) : (addD P st i n).all (fun r => r.1.length = st.1.length ∧ (st.2.2 = true → r.2.2 = true)) := by
  unfold addD
  rw [all_bind]
  exact all_true fun a => len_fit P i _ st _
def lvD (P : SP) : Nat → SS → DT SS
  | 0, st => .ret st
  | k + 1, st => (rsD P st.2.1 (-1) st.1 0 (0, 0)).bind fun r => lvD P k (r.1, st.2.1 + 1, st.2.2)
def togD (x y : SS) (i : Nat) : DT Cell :=
  (rndD (wth (x.1.getD i (0, 0)) x.2.1) (x.2.1 * max (x.1.getD i (0, 0)).2 (y.1.getD i (0, 0)).2)).bind fun n =>
  (rndD (wth (y.1.getD i (0, 0)) x.2.1) (x.2.1 * max (x.1.getD i (0, 0)).2 (y.1.getD i (0, 0)).2)).bind fun m => .ret (n + m, max (x.1.getD i (0, 0)).2 (y.1.getD i (0, 0)).2)
def mgD (P : SP) : Nat → Nat → SS → SS → DT SS
  | 0, _, x, y => .ret (x.1, x.2.1, x.2.2 || y.2.2)
  | k + 1, i, x, y => (lvD P (x.2.1 - y.2.1) y).bind fun y1 => (togD x y1 i).bind fun c => (fitD P i (fuelF P x.2.1 c.2) x c).bind fun x1 => mgD P k (i + 1) x1 y1
def mergeD (P : SP) (x y : SS) : DT SS := (lvD P (y.2.1 - x.2.1) x).bind fun x1 => mgD P x.1.length 0 x1 y
end Go.Proofs.YtdmdmdoeahhkiaaGreatDoor

namespace Go.Proofs.YtdmdmdoeahhkiaaGreatDoor
set_option linter.unusedSimpArgs false
set_option linter.unusedVariables false
variable {α : Type}
def DT.sub : DT α → List Bool → DT α
  | t, [] => t
  | .ret a, _ :: _ => .ret a
  | .ask f g, b :: bs => (if b then g else f).sub bs
theorem sub_ret (a : α) (L : List Bool) : (DT.ret a).sub L = .ret a := by cases L <;> rfl
def wkS (val : α → Nat) : DT α → Nat → Nat
  | .ret a, f => val a * 2 ^ f
  | .ask _ _, 0 => 0
  | .ask g h, f + 1 => wkS val g f + wkS val h f
def wkO : DT α → Nat → Bool
  | .ret _, _ => false
  | .ask _ _, 0 => true
  | .ask g h, f + 1 => wkO g f || wkO h f
def wkA (q : α → Bool) : DT α → Nat → Bool
  | .ret a, _ => q a
  | .ask _ _, 0 => false
  | .ask g h, f + 1 => wkA q g f || wkA q h f
def actsD (P : SP) (x y z : Nat) : DT SS :=
  (addD P ([(0, 0), (0, 0)], 1, false) 0 x).bind fun a => (addD P a 1 y).bind fun b => (addD P b 0 z).bind fun c => mergeD P c c
end Go.Proofs.YtdmdmdoeahhkiaaGreatDoor
