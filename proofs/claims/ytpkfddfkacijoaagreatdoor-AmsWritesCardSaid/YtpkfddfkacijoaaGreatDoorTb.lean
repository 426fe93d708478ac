import Derived.Test.YtpkfddfkacijoaaGreatDoorE8
import Derived.Test.YtpkfddfkacijoaaGreatDoorFa
namespace Go.Proofs.YtpkfddfkacijoaaGreatDoor
open Go.Eng Go.Vx
set_option linter.unusedSimpArgs false
set_option linter.unusedVariables false
set_option maxRecDepth 100000
def belowR (L : List Bool) (n w : Nat) : Nat → Nat → Nat × Int × Nat × Bool
  | 0, p => (0, 8, L.length, true)
  | f + 1, p => if p + w ≤ L.length then (if numOf ((L.drop p).take w) < n then (numOf ((L.drop p).take w), 0, p + w, false) else belowR L n w f (p + w)) else (0, 8, L.length, true)
def belowX (L : List Bool) (n p : Nat) : Nat × Int × Nat × Bool := belowR L n (bl (n - 1)) (L.length + 1 - p) p
theorem belowR_fuel {L : List Bool} {n w : Nat} (hw : 0 < w) : ∀ f q, L.length + 1 - q ≤ f → belowR L n w f q = belowR L n w (L.length + 1 - q) q := by
  intro f
  induction f using Nat.strongRecOn with
  | _ f ih =>
    intro q h
    by_cases hq : q + w ≤ L.length
    · obtain ⟨g, hg⟩ : ∃ g, L.length + 1 - q = g + 1 := ⟨L.length - q, by omega⟩
      obtain ⟨k, rfl⟩ : ∃ k, f = k + 1 := ⟨f - 1, by omega⟩
      rw [hg]
      unfold belowR
      rw [if_pos hq, if_pos hq]
      split
      · rfl
      · rw [ih k (by omega) (q + w) (by omega), ih g (by omega) (q + w) (by omega)]
    · have e : ∀ k, belowR L n w k q = (0, 8, L.length, true) := fun k => by
        cases k with
        | zero => rfl
        | succ k => unfold belowR; rw [if_neg hq]
      rw [e, e]
theorem below_fn {L : List Bool} {n p : Nat} (hL : L.length ≤ 1048576) (hp : p ≤ L.length) (hn : 0 < n) (hn2 : n < 18446744073709551616) : Fn1 Tryz.prog 76 [.ref 0 0 0 0, .lit (.int .u64 n)] [some (tpC L p false)]
    (.tup [.lit (.int .u64 ((belowX L n p).1 : Int)), .lit (.int .i64 (belowX L n p).2.1)]) [some (tpC L (belowX L n p).2.2.1 (belowX L n p).2.2.2)] := by
  refine fn1N_of pl76 (by kernel_rfl) Tryz.call76 Tryz.func76 rfl (by kernel_rfl) rfl [.tmp 4, .tmp 5] (by kernel_rfl) fun Q hQ => ?_
  have hn1 : (n : Int) - 1 = ((n - 1 : Nat) : Int) := by omega
  have hw := bl_le_of (n := n - 1) (k := 64) (by omega)
  have hnw := bl_lt (n - 1)
  unfold belowX at hQ
  generalize hwd : bl (n - 1) = w at *
  simp (maxSteps := 1000000) (disch := (first | omega | (simp only [lnA, List.length_map, List.length_range, true_and, and_true]; (try omega); done) | fail)) only [go_sem, hn1, Int.reduceEq, Int.reduceToNat, Nat.reduceAdd, Nat.reduceMul, Nat.reduceEqDiff, ↓reduceIte]
  refine callV0 (hwd ▸ len64_fn (n := n - 1) (by omega)) rfl rfl ?_
  refine runW ?_
  refine loopW (X := Nat) (st := fun q => ([(0, .ref 0 0 0 0), (1, .lit (.int .u64 (n : Int))), (6, .lit (.int .i64 (w : Int)))], [some (tpC L q false)]))
    (inv := fun q => q ≤ L.length ∧ belowR L n w (L.length + 1 - p) p = belowR L n w (L.length + 1 - q) q) (m := fun q => L.length - q) p [some 0] ⟨hp, rfl⟩ ?_
  rintro q ⟨hq, hv⟩
  obtain ⟨f, hf⟩ : ∃ f, L.length + 1 - q = f + 1 := ⟨L.length - q, by omega⟩
  rw [hf] at hv
  rw [hv] at hQ
  refine runW ?_
  refine LoopV_of (X := Nat) (st := fun i => ([(0, .ref 0 0 0 0), (1, .lit (.int .u64 (n : Int))), (6, .lit (.int .i64 (w : Int))), (7, .lit (.int .u64 ((numOf ((L.drop q).take i) : Nat) : Int))), (15, .lit (.int .i64 (w : Int))), (16, .lit (.int .i64 (i : Int)))], [some (tpC L (q + i) false)]))
    (inv := fun i => i ≤ w ∧ q + i ≤ L.length) (m := fun i => w - i) 0 [some 0] rfl (by simp (disch := (first | omega | (simp only [lnA, List.length_map, List.length_range, true_and, and_true]; (try omega); done) | fail)) only [go_sem, Int.reduceEq, Int.reduceToNat, Nat.reduceAdd, Nat.reduceMul, Nat.reduceEqDiff, ↓reduceIte, true_and, and_true, and_self, List.drop_zero, List.take_length, Nat.le_refl, V.lit.injEq, Value.int.injEq, Value.bool.injEq]; try (first | omega | (simp; done) | (simp; omega))) (by simp only [List.take_zero, numOf_nil]; (simp (disch := (first | omega | (simp only [lnA, List.length_map, List.length_range, true_and, and_true]; (try omega); done) | fail)) only [go_sem, Int.reduceEq, Int.reduceToNat, Nat.reduceAdd, Nat.reduceMul, Nat.reduceEqDiff, ↓reduceIte, true_and, and_true, and_self, List.drop_zero, List.take_length, Nat.le_refl, V.lit.injEq, Value.int.injEq, Value.bool.injEq]; try (first | omega | (simp; done) | (simp; omega)))) ⟨by omega, by omega⟩ ?_
  rintro i ⟨hi, hqi⟩
  by_cases hiw : i < w
  · by_cases hin : q + i < L.length
    · have hts := take_snoc (l := L) (a := q) (w := i) hin
      have hns := numOf_snoc ((L.drop q).take i) (L.getD (q + i) false)
      rw [← hts] at hns
      have hnl := numOf_lt ((L.drop q).take i)
      have hln : ((L.drop q).take i).length = i := by simp; omega
      rw [hln] at hnl
      have hp2 : 2 ^ i ≤ 2 ^ 63 := Nat.pow_le_pow_right (by decide) (by omega)
      have hxl : numOf ((L.drop q).take i) < 9223372036854775808 := by omega
      generalize numOf ((L.drop q).take i) = x at *
      have hb : bitK .or .u64 ((x : Int) * 2) 1 = ((2 * x + 1 : Nat) : Int) := bit_or' x true hxl
      refine runW ?_
      refine callW [some 0] [] (flip_fn (L := L) (p := q + i) hL hin) ?_
      cases hbit : L.getD (q + i) false with
      | true =>
        rw [hbit] at hns
        simp only [Bool.toNat_true] at hns
        simp (maxSteps := 1000000) (disch := (first | omega | (simp only [lnA, List.length_map, List.length_range, true_and, and_true]; (try omega); done) | fail)) only [go_sem, hb, Int.reduceEq, Int.reduceToNat, Nat.reduceAdd, Nat.reduceMul, Nat.reduceEqDiff, ↓reduceIte]
        refine NextV_of (i + 1) [some 0] rfl (by dsimp only; rw [← Nat.add_assoc]; (simp (disch := (first | omega | (simp only [lnA, List.length_map, List.length_range, true_and, and_true]; (try omega); done) | fail)) only [go_sem, Int.reduceEq, Int.reduceToNat, Nat.reduceAdd, Nat.reduceMul, Nat.reduceEqDiff, ↓reduceIte, true_and, and_true, and_self, List.drop_zero, List.take_length, Nat.le_refl, V.lit.injEq, Value.int.injEq, Value.bool.injEq]; try (first | omega | (simp; done) | (simp; omega)))) (by dsimp only; rw [hns]; (simp (disch := (first | omega | (simp only [lnA, List.length_map, List.length_range, true_and, and_true]; (try omega); done) | fail)) only [go_sem, Int.reduceEq, Int.reduceToNat, Nat.reduceAdd, Nat.reduceMul, Nat.reduceEqDiff, ↓reduceIte, true_and, and_true, and_self, List.drop_zero, List.take_length, Nat.le_refl, V.lit.injEq, Value.int.injEq, Value.bool.injEq]; try (first | omega | (simp; done) | (simp; omega)))) ⟨by omega, by omega⟩ (by omega)
      | false =>
        rw [hbit] at hns
        simp only [Bool.toNat_false, Nat.add_zero] at hns
        refine runW ?_
        refine NextV_of (i + 1) [some 0] rfl (by dsimp only; rw [← Nat.add_assoc]; (simp (disch := (first | omega | (simp only [lnA, List.length_map, List.length_range, true_and, and_true]; (try omega); done) | fail)) only [go_sem, Int.reduceEq, Int.reduceToNat, Nat.reduceAdd, Nat.reduceMul, Nat.reduceEqDiff, ↓reduceIte, true_and, and_true, and_self, List.drop_zero, List.take_length, Nat.le_refl, V.lit.injEq, Value.int.injEq, Value.bool.injEq]; try (first | omega | (simp; done) | (simp; omega)))) (by dsimp only; rw [hns]; (simp (disch := (first | omega | (simp only [lnA, List.length_map, List.length_range, true_and, and_true]; (try omega); done) | fail)) only [go_sem, Int.reduceEq, Int.reduceToNat, Nat.reduceAdd, Nat.reduceMul, Nat.reduceEqDiff, ↓reduceIte, true_and, and_true, and_self, List.drop_zero, List.take_length, Nat.le_refl, V.lit.injEq, Value.int.injEq, Value.bool.injEq]; try (first | omega | (simp; done) | (simp; omega)))) ⟨by omega, by omega⟩ (by omega)
    · have hqe : q + i = L.length := by omega
      rw [show belowR L n w (f + 1) q = (0, 8, L.length, true) by unfold belowR; rw [if_neg (by omega)]] at hQ
      rw [hqe]
      refine runW ?_
      refine callW [some 0] [] (flipE_fn (L := L) (p := L.length) (d := false) hL (.inr rfl)) ?_
      refine runW ?_
      exact endW [some 0] hQ
  · obtain rfl : i = w := by omega
    have hnl := numOf_lt ((L.drop q).take i)
    have hln : ((L.drop q).take i).length = i := by simp; omega
    rw [hln] at hnl
    have hp2 : 2 ^ i ≤ 2 ^ 64 := Nat.pow_le_pow_right (by decide) (by omega)
    have hb : belowR L n i (f + 1) q = if numOf ((L.drop q).take i) < n then (numOf ((L.drop q).take i), 0, q + i, false) else belowR L n i f (q + i) := by
      conv => lhs; unfold belowR
      rw [if_pos hqi]
    by_cases hx : numOf ((L.drop q).take i) < n
    · rw [hb, if_pos hx] at hQ
      refine runW ?_
      exact endW [some 0] hQ
    · rw [if_neg hx] at hb
      have hi0 : 0 < i := by
        rcases Nat.eq_zero_or_pos i with h | h
        · subst h
          rw [Nat.pow_zero] at hnl
          omega
        · exact h
      refine runW ?_
      refine nextW (q + i) [some 0] ⟨hqi, ?_⟩ (by omega)
      rw [hv, hb]
      exact belowR_fuel hi0 f (q + i) (by omega)
def cT : List Bool → Nat
  | [] => 0
  | b :: l => b.toNat + cT l
def binX (L : List Bool) (Y p : Nat) : Nat × Int × Nat × Bool := if p + Y ≤ L.length then (cT ((L.drop p).take Y), 0, p + Y, false) else (0, 8, L.length, true)
end Go.Proofs.YtpkfddfkacijoaaGreatDoor
