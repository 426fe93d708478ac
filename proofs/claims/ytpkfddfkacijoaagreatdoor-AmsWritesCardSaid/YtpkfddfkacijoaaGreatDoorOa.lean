import Derived.Test.YtpkfddfkacijoaaGreatDoorE7
import Derived.Test.YtpkfddfkacijoaaGreatDoorE8
import Derived.Test.YtpkfddfkacijoaaGreatDoorQa
namespace Go.Proofs.YtpkfddfkacijoaaGreatDoor
open Go.Eng
set_option linter.unusedSimpArgs false
set_option linter.unusedVariables false
theorem cut_take {L : List Bool} (p w : Nat) : L.drop p = (L.drop p).take w ++ L.drop (p + w) := by
  rw [← List.drop_drop, List.take_append_drop]
theorem zl_take : ∀ l : List Bool, l.take (zl l) = List.replicate (zl l) false
  | [] => rfl
  | true :: l => rfl
  | false :: l => by
    show (false :: l).take (zl l + 1) = List.replicate (zl l + 1) false
    rw [List.take_succ_cons, zl_take l, List.replicate_succ]
theorem numBits_of {L : List Bool} {p w : Nat} (h : p + w ≤ L.length) : numBits (numOf ((L.drop p).take w)) w = (L.drop p).take w := by
  have hl : ((L.drop p).take w).length = w := by simp; omega
  have := numBits_numOf ((L.drop p).take w)
  rw [hl] at this
  exact this
theorem gX_way {L : List Bool} {p : Nat} (h : (gX L p).2.2 = 0) : L.drop p = gammaB (gX L p).1 ++ L.drop (gX L p).2.1 ∧ (gX L p).2.1 ≤ L.length ∧ p ≤ (gX L p).2.1 := by
  obtain ⟨k, hz⟩ : ∃ k, zr L p = k := ⟨_, rfl⟩
  by_cases h64 : 64 ≤ k
  · rw [(gX_form (by rw [hz]; exact h64)).1] at h; cases h
  by_cases he : L.length < p + 2 * k + 1
  · rw [(gX_end hz (by omega) he).1] at h; cases h
  rw [(gX_ok hz (by omega) (by omega)).1]
  dsimp only
  have ht : L.getD (p + k) false = true := by
    rw [← getD_drop', ← hz]
    exact zl_true _ (by have := hz; unfold zr at this; rw [this]; simp; omega)
  have hn := numOf_top (L := L) (q := p + k) (k := k) (by omega) ht
  have h2 : numOf ((L.drop (p + k + 1)).take k) < 2 ^ k := Nat.lt_of_lt_of_le (numOf_lt _) (Nat.pow_le_pow_right (by decide) (by simp; omega))
  have hb : bl (2 ^ k + numOf ((L.drop (p + k + 1)).take k)) = k + 1 := bl_eq (by omega) (by rw [Nat.pow_succ]; omega)
  have h3 := numBits_of (L := L) (p := p + k) (w := k + 1) (by omega)
  rw [hn] at h3
  refine ⟨?_, by omega, by omega⟩
  unfold gammaB
  have hzt : List.replicate k false = (L.drop p).take k := by rw [← hz]; exact (zl_take _).symm
  rw [hb, Nat.add_sub_cancel, h3, numBits_zero, hzt, List.append_assoc, show p + 2 * k + 1 = p + k + (k + 1) by omega, ← cut_take, ← cut_take]
theorem vXj_way {L : List Bool} : ∀ (j i p a : Nat), (vXj L j i p a).2.2 = 0 → ∃ n, (vXj L j i p a).1 = a + n * 2 ^ (7 * i) ∧ L.drop p = varB n ++ L.drop (vXj L j i p a).2.1 ∧ (vXj L j i p a).2.1 ≤ L.length ∧ p ≤ (vXj L j i p a).2.1 ∧ (0 < i → n ≠ 0)
  | 0, i, p, a, h => by cases h
  | j + 1, i, p, a, h => by
    by_cases h8 : p + 8 ≤ L.length
    · obtain ⟨x, hx⟩ : ∃ x, numOf ((L.drop p).take 8) = x := ⟨_, rfl⟩
      have hb := numBits_of (L := L) (p := p) (w := 8) h8
      have hlt : x < 256 := by rw [← hx]; exact Nat.lt_of_lt_of_le (numOf_lt _) (show 2 ^ ((L.drop p).take 8).length ≤ 2 ^ 8 from Nat.pow_le_pow_right (by decide) (by rw [List.length_take]; omega))
      rw [hx] at hb
      rw [vXj_ok h8 hx] at h ⊢
      by_cases c1 : (i = 9 ∧ 1 < x % 128) ∨ (0 < i ∧ x = 0)
      · rw [if_pos c1] at h; cases h
      rw [if_neg c1] at h ⊢
      by_cases c2 : x < 128
      · rw [if_pos c2]
        refine ⟨x, by dsimp only; rw [Nat.mod_eq_of_lt c2], ?_, h8, by dsimp only; omega, fun hi h0 => c1 (.inr ⟨hi, h0⟩)⟩
        rw [varB_lt c2, hb, ← cut_take]
      · rw [if_neg c2] at h ⊢
        obtain ⟨n, k1, k2, k3, k4, k5⟩ := vXj_way j (i + 1) (p + 8) (a + x % 128 * 2 ^ (7 * i)) h
        have hn := k5 (Nat.succ_pos i)
        refine ⟨x % 128 + 128 * n, ?_, ?_, k3, by omega, fun _ => by omega⟩
        · rw [k1, pow7_succ, Nat.add_mul, Nat.add_assoc]
          congr 2
          rw [← Nat.mul_assoc, Nat.mul_comm n 128]
        · rw [varB_ge (by omega), show (x % 128 + 128 * n) / 128 = n by omega, show 128 + (x % 128 + 128 * n) % 128 = x by omega, hb, List.append_assoc, ← k2, ← cut_take]
    · rw [vXj_end h8] at h; cases h
theorem vX_way {L : List Bool} {p : Nat} (h : (vX L p).2.2 = 0) : L.drop p = varB (vX L p).1 ++ L.drop (vX L p).2.1 ∧ (vX L p).2.1 ≤ L.length ∧ p ≤ (vX L p).2.1 := by
  obtain ⟨n, h1, h2, h3, h4, -⟩ := vXj_way 10 0 p 0 h
  have e : (vX L p).1 = n := by
    show (vXj L 10 0 p 0).1 = n
    rw [h1]; simp
  rw [e]
  exact ⟨h2, h3, h4⟩
end Go.Proofs.YtpkfddfkacijoaaGreatDoor

namespace Go.Proofs.YtpkfddfkacijoaaGreatDoor
open Go.Eng Go.Vx
set_option linter.unusedSimpArgs false
set_option linter.unusedVariables false
set_option maxRecDepth 100000
theorem rnumB_fn {B : List Int} {p : Nat} {w : Int} (hw : ¬ (0 ≤ w ∧ w ≤ 64)) : Fn1 Tryz.prog 50 [.ref 0 0 0 0, .lit (.int .i64 w)] [some (rdC B p)] (.tup [.lit (.int .u64 0), .lit (.int .i64 2)]) [some (rdC B p)] := by
  refine fn1N_of pl50 (by kernel_rfl) Tryz.call50 Tryz.func50 rfl (by kernel_rfl) rfl [.tmp 4, .tmp 5] (by kernel_rfl) fun Q hQ => ?_
  simp (maxSteps := 1000000) (disch := (first | omega | (simp only [lnA, List.length_map, List.length_range, true_and, and_true]; (try omega); done) | fail)) only [go_sem, Int.reduceEq, Int.reduceToNat, Nat.reduceAdd, Nat.reduceMul, Nat.reduceEqDiff, ↓reduceIte]
  refine callV0 (bgood_fn) rfl rfl ?_
  rw [decide_eq_false hw]
  simp (maxSteps := 1000000) (disch := (first | omega | (simp only [lnA, List.length_map, List.length_range, true_and, and_true]; (try omega); done) | fail)) only [go_sem, Int.reduceEq, Int.reduceToNat, Nat.reduceAdd, Nat.reduceMul, Nat.reduceEqDiff, ↓reduceIte]
  exact endW [some 0] hQ
theorem rnumX_fn {B : List Int} {p : Nat} {w : Int} (hI : IsB B) (hB : B.length ≤ 1099511627776) (hp : p ≤ 8 * B.length) : Fn1 Tryz.prog 50 [.ref 0 0 0 0, .lit (.int .i64 w)] [some (rdC B p)]
    (.tup [.lit (.int .u64 ((rX (bitsOf B) p w).1 : Int)), .lit (.int .i64 (rX (bitsOf B) p w).2.2)]) [some (rdC B (rX (bitsOf B) p w).2.1)] := by
  unfold rX
  have hbl := bitsOf_len B
  by_cases hw : 0 ≤ w ∧ w ≤ 64
  · obtain ⟨m, rfl⟩ := Int.eq_ofNat_of_zero_le hw.1
    simp only [if_pos hw, Int.toNat_natCast]
    by_cases h2 : p + m ≤ (bitsOf B).length
    · simp only [if_pos h2]
      exact brnum_fn hI hB (by omega) (by omega)
    · simp only [if_neg h2]
      exact rnumE_fn hI hB (by omega) (by omega) hp
  · simp only [if_neg hw]
    exact rnumB_fn hw
theorem rbitX_fn {B : List Int} {p : Nat} (hI : IsB B) (hB : B.length ≤ 1099511627776) (hp : p ≤ 8 * B.length) : Fn1 Tryz.prog 15 [.ref 0 0 0 0] [some (rdC B p)]
    (.tup [.lit (.bool (decide ((rX (bitsOf B) p 1).1 = 1))), .lit (.int .i64 (rX (bitsOf B) p 1).2.2)]) [some (rdC B (rX (bitsOf B) p 1).2.1)] := by
  refine fn1N_of pl15 (by kernel_rfl) Tryz.call15 Tryz.func15 rfl (by kernel_rfl) rfl [.tmp 2, .tmp 3] (by kernel_rfl) fun Q hQ => ?_
  simp (maxSteps := 1000000) (disch := (first | omega | (simp only [lnA, List.length_map, List.length_range, true_and, and_true]; (try omega); done) | fail)) only [go_sem, Int.reduceEq, Int.reduceToNat, Nat.reduceAdd, Nat.reduceMul, Nat.reduceEqDiff, ↓reduceIte]
  refine callW [some 0] [] (rnumX_fn (B := B) (p := p) (w := 1) hI hB hp) ?_
  simp (maxSteps := 1000000) (disch := (first | omega | (simp only [lnA, List.length_map, List.length_range, true_and, and_true]; (try omega); done) | fail)) only [go_sem, Int.reduceEq, Int.reduceToNat, Nat.reduceAdd, Nat.reduceMul, Nat.reduceEqDiff, ↓reduceIte]
  rw [show decide (((rX (bitsOf B) p 1).1 : Int) = 1) = decide ((rX (bitsOf B) p 1).1 = 1) by rw [decide_eq_decide]; omega]
  exact endW [some 0] hQ
end Go.Proofs.YtpkfddfkacijoaaGreatDoor
