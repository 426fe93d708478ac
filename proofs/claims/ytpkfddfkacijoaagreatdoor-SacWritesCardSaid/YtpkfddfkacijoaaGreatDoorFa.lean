import Derived.Test.YtpkfddfkacijoaaGreatDoorE6
import Derived.Test.YtpkfddfkacijoaaGreatDoorE7
import Derived.Test.YtpkfddfkacijoaaGreatDoorN1
import Derived.Test.YtpkfddfkacijoaaGreatDoorE8
import Derived.Test.YtpkfddfkacijoaaGreatDoorWc
namespace Go.Proofs.YtpkfddfkacijoaaGreatDoor
open Go.Eng Go.Vx
set_option linter.unusedSimpArgs false
set_option linter.unusedVariables false
set_option maxRecDepth 100000
theorem tab_ix {s : ByteArray} {z : Nat} {F : Bool → V → Prop} (h : ∀ z : Fin 256, strAt s z.val = bl z.val) (hs : s.size = 256) (hz : z < 256) :
  ixvV Tryz.prog 9 (.lit (.string s)) (.lit (.int .u8 (z : Int))) F = F true (.lit (.int .u8 (bl z : Int))) := by
 rw [vis_9 (by omega), show ((z : Nat) : Int).toNat = z by omega, h ⟨z, hz⟩]
theorem len64_fn {n : Nat} (hn : n < 18446744073709551616) : Fn1 Tryz.prog 56 [.lit (.int .u64 n)] [] (.lit (.int .i64 (bl n : Int))) [] := by
 refine fn1N_of pl56 (by kernel_rfl) Tryz.call56 Tryz.func56 rfl (by kernel_rfl) rfl [.tmp 2] (by kernel_rfl) fun Q hQ => ?_
 obtain ⟨c, hc⟩ : ∃ c : Int, c = bl n := ⟨_, rfl⟩
 rw [← hc] at hQ
 by_cases h32 : 4294967296 ≤ n
 case' pos =>
  have e1 := bl_div (n := n) (k := 32) h32
  refine runW ?_
  rw [show (n : Int) / 4294967296 = ((n / 2 ^ 32 : Nat) : Int) by omega]
  have hx : n / 2 ^ 32 < 4294967296 := by omega
  generalize n / 2 ^ 32 = x at *
 case' neg =>
  refine runW ?_
  have hx : n < 4294967296 := by omega
  have e1 : bl n = 0 + bl n := by omega
  obtain ⟨x, rfl⟩ : ∃ x, x = n := ⟨_, rfl⟩
 all_goals
  by_cases h16 : 65536 ≤ x
  case' pos =>
   have e2 := bl_div (n := x) (k := 16) h16
   refine runW ?_
   rw [show (x : Int) / 65536 = ((x / 2 ^ 16 : Nat) : Int) by omega]
   have hy : x / 2 ^ 16 < 65536 := by omega
   generalize x / 2 ^ 16 = y at *
  case' neg =>
   refine runW ?_
   have hy : x < 65536 := by omega
   have e2 : bl x = 0 + bl x := by omega
   obtain ⟨y, rfl⟩ : ∃ y, y = x := ⟨_, rfl⟩
 all_goals
  by_cases h8 : 256 ≤ y
  case' pos =>
   have e3 := bl_div (n := y) (k := 8) h8
   refine runW ?_
   rw [show (y : Int) / 256 = ((y / 2 ^ 8 : Nat) : Int) by omega]
   have hz : y / 2 ^ 8 < 256 := by omega
   generalize y / 2 ^ 8 = z at *
  case' neg =>
   refine runW ?_
   have hz : y < 256 := by omega
   have e3 : bl y = 0 + bl y := by omega
   obtain ⟨z, rfl⟩ : ∃ z, z = y := ⟨_, rfl⟩
 all_goals
  have hb8 := bl_le_of (n := z) (k := 8) hz
  rw [tab_ix (of_decide_eq_true (by kernel_rfl)) (by kernel_rfl) hz]
  refine runW ?_
  exact endW [] hQ
end Go.Proofs.YtpkfddfkacijoaaGreatDoor

namespace Go.Proofs.YtpkfddfkacijoaaGreatDoor
open Go.Eng Go.Vx
set_option linter.unusedSimpArgs false
set_option linter.unusedVariables false
set_option maxRecDepth 100000
def halfX (L : List Bool) : Nat → Nat → Bool × Int × Nat × Bool
 | 0, p => (true, 0, p, false)
 | k + 1, p => if p < L.length then (if L.getD p false then halfX L k (p + 1) else (false, 0, p + 1, false)) else (false, 8, L.length, true)
theorem halfX_zero (L : List Bool) (p : Nat) : halfX L 0 p = (true, 0, p, false) := by unfold halfX; rfl
theorem halfX_succ (L : List Bool) (k p : Nat) : halfX L (k + 1) p = if p < L.length then (if L.getD p false then halfX L k (p + 1) else (false, 0, p + 1, false)) else (false, 8, L.length, true) := by conv => lhs; unfold halfX
def ratR (L : List Bool) (D : Nat) : Nat → Nat → Nat → Bool × Int × Nat × Bool
 | 0, _, _ => (false, 8, L.length, true)
 | f + 1, r, p => if p < L.length then
   (if L.getD p false = decide (D ≤ r + r) ∧ (if D ≤ r + r then r + r - D else r + r) ≠ 0 then ratR L D f (if D ≤ r + r then r + r - D else r + r) (p + 1) else (decide (D ≤ r + r) && !L.getD p false, 0, p + 1, false))
   else (false, 8, L.length, true)
theorem ratR_succ (L : List Bool) (D f r p : Nat) : ratR L D (f + 1) r p = if p < L.length then
   (if L.getD p false = decide (D ≤ r + r) ∧ (if D ≤ r + r then r + r - D else r + r) ≠ 0 then ratR L D f (if D ≤ r + r then r + r - D else r + r) (p + 1) else (decide (D ≤ r + r) && !L.getD p false, 0, p + 1, false))
   else (false, 8, L.length, true) := by conv => lhs; unfold ratR
def ratX (L : List Bool) (P D p : Nat) : Bool × Int × Nat × Bool :=
 if D = 0 ∨ D < P then (false, 2, p, false) else if P = 0 then (false, 0, p, false) else if P = D then (true, 0, p, false) else ratR L D (L.length + 1 - p) P p
theorem good_fn {P D : Nat} (hP : (wg P).length ≤ 1000000) (hD1 : (wg D).length ≤ 1000000) : Fn1 Tryz.prog 175 [NV P, NV D] [] (.lit (.bool (decide (¬ (D = 0 ∨ D < P))))) [] := by
 refine fn1N_of pl175 (by kernel_rfl) Tryz.call175 Tryz.func175 rfl (by kernel_rfl) rfl [.tmp 4] (by kernel_rfl) fun Q hQ => ?_
 by_cases hz : D = 0
 ·
  rw [decide_eq_false (fun h => h (.inl hz))] at hQ
  refine runW ?_
  refine callV0 (zero_fn (n := D) (by omega)) rfl rfl ?_
  rw [decide_eq_true hz]
  refine runW ?_
  exact endW [] hQ
 ·
  refine runW ?_
  refine callV0 (zero_fn (n := D) (by omega)) rfl rfl ?_
  rw [decide_eq_false hz]
  refine runW ?_
  refine callV0 (ncmp_fn (a := P) (b := D) (by omega) (by omega)) rfl rfl ?_
  have e : decide (cmpI P D ≤ 0) = decide (¬ (D = 0 ∨ D < P)) := by
   have : cmpI P D ≤ 0 ↔ ¬ (D = 0 ∨ D < P) := by unfold cmpI; split <;> (try split) <;> omega
   simp only [this]
  simp (maxSteps := 1000000) (disch := (first | omega | (simp only [lnA, List.length_map, List.length_range, true_and, and_true]; (try omega); done) | fail)) only [go_sem, e, Int.reduceEq, Int.reduceToNat, Nat.reduceAdd, Nat.reduceMul, Nat.reduceEqDiff, ↓reduceIte]
  exact endW [] hQ
set_option maxHeartbeats 2000000 in
theorem ratio_fn {L : List Bool} {P D p : Nat} (hL : L.length ≤ 1048576) (hp : p ≤ L.length) (hP : (wg P).length ≤ 500000) (hD1 : (wg D).length ≤ 500000) : Fn1 Tryz.prog 165 [.ref 0 0 0 0, NV P, NV D] [some (tpC L p false)]
  (.tup [.lit (.bool (ratX L P D p).1), .lit (.int .i64 (ratX L P D p).2.1)]) [some (tpC L (ratX L P D p).2.2.1 (ratX L P D p).2.2.2)] := by
 refine fn1N_of pl165 (by kernel_rfl) Tryz.call165 Tryz.func165 rfl (by kernel_rfl) rfl [.tmp 6, .tmp 7] (by kernel_rfl) fun Q hQ => ?_
 unfold ratX at hQ
 refine runW ?_
 refine callV0 (good_fn (P := P) (D := D) (by omega) (by omega)) rfl rfl ?_
 by_cases h1 : D = 0 ∨ D < P
 ·
  rw [decide_eq_false (fun h => h h1)]
  rw [if_pos h1] at hQ
  refine runW ?_
  exact endW [some 0] hQ
 ·
  rw [decide_eq_true h1]
  rw [if_neg h1] at hQ
  refine runW ?_
  refine callV0 (zero_fn (n := P) (by omega)) rfl rfl ?_
  by_cases h2 : P = 0
  ·
   rw [decide_eq_true h2]
   rw [if_pos h2] at hQ
   refine runW ?_
   exact endW [some 0] hQ
  ·
   rw [decide_eq_false h2]
   rw [if_neg h2] at hQ
   refine runW ?_
   refine loopW (X := Nat × Nat) (st := fun z => ([(0, .ref 0 0 0 0), (4, .ref 1 0 0 0), (5, .ref 2 0 0 0), (8, .ref 3 0 0 0)], [some (tpC L z.2 false), some (.cells [.row 1 ((nl (wg P)).map (ie .u64))]), some (.cells [.row 1 ((nl (wg D)).map (ie .u64))]), some (.cells [.row 1 ((nl (wg z.1)).map (ie .u64))])]))
    (inv := fun z => z.2 ≤ L.length ∧ 0 < z.1 ∧ z.1 ≤ D ∧ (if P = D then (true, 0, p, false) else ratR L D (L.length + 1 - p) P p) = (if z.1 = D then (true, 0, z.2, false) else ratR L D (L.length + 1 - z.2) z.1 z.2)) (m := fun z => L.length - z.2) (P, p) [some 0, some 1, some 2, some 3] ⟨hp, by simp only; omega, by simp only; omega, rfl⟩ ?_
   rintro ⟨r, q⟩ ⟨hq, hr0, hrD, hv⟩
   simp only at hq hr0 hrD hv ⊢
   rw [hv] at hQ
   have hrl := wg_mono hrD
   refine runW ?_
   refine callV0 (ncmp_fn (a := r) (b := D) (by omega) (by omega)) rfl rfl ?_
   by_cases h3 : r = D
   ·
    rw [if_pos h3] at hQ
    have hc : ¬ cmpI r D < 0 := fun h => by have := cmpI_neg.1 h; omega
    simp (maxSteps := 1000000) (disch := (first | omega | (simp only [lnA, List.length_map, List.length_range, true_and, and_true]; (try omega); done) | fail)) only [go_sem, decide_eq_false hc, Int.reduceEq, Int.reduceToNat, Nat.reduceAdd, Nat.reduceMul, Nat.reduceEqDiff, ↓reduceIte]
    exact endW [some 0] hQ
   ·
    rw [if_neg h3] at hQ hv
    have hc := cmpI_neg.2 (show r < D by omega)
    obtain ⟨f, hf⟩ : ∃ f, L.length + 1 - q = f + 1 := ⟨L.length - q, by omega⟩
    rw [hf, ratR_succ] at hQ hv
    have hrr : (wg (r + r)).length ≤ (wg D).length + 1 := dgB_len_add (B := 18446744073709551616) (by decide) hrl hrl
    by_cases hin : q < L.length
    ·
     rw [if_pos hin] at hQ hv
     simp (maxSteps := 1000000) (disch := (first | omega | (simp only [lnA, List.length_map, List.length_range, true_and, and_true]; (try omega); done) | fail)) only [go_sem, decide_eq_true hc, Int.reduceEq, Int.reduceToNat, Nat.reduceAdd, Nat.reduceMul, Nat.reduceEqDiff, ↓reduceIte]
     refine callW [some 0] [] (flip_fn (L := L) (p := q) hL hin) ?_
     refine runW ?_
     refine callV0 (nadd_fn (a := r) (b := r) (by omega) (by omega)) rfl rfl ?_
     refine runW ?_
     by_cases hd : D ≤ r + r
     ·
      rw [if_pos hd, decide_eq_true hd] at hQ hv
      refine callV0 (nsub_fn (a := r + r) (b := D) hd (by omega)) rfl rfl ?_
      have hsl := wg_mono (show r + r - D ≤ r + r by omega)
      cases hbit : L.getD q false with
      | false =>
       rw [hbit, if_neg (by simp)] at hQ
       refine runW ?_
       exact endW [some 0] hQ
      | true =>
       refine runW ?_
       refine callV0 (zero_fn (n := r + r - D) (by omega)) rfl rfl ?_
       by_cases hz : r + r - D = 0
       ·
        rw [hbit, if_neg (fun h => h.2 hz)] at hQ
        rw [decide_eq_true hz]
        refine runW ?_
        exact endW [some 0] hQ
       ·
        rw [hbit, if_pos (show true = true ∧ r + r - D ≠ 0 from ⟨rfl, hz⟩)] at hv
        rw [decide_eq_false hz]
        refine runW ?_
        refine nextW (r + r - D, q + 1) [some 0, some 1, some 2, some 5] ⟨by simp only; omega, by simp only; omega, by simp only; omega, ?_⟩ (by simp only; omega)
        simp only
        rw [hv, if_neg (show ¬ r + r - D = D by omega), show L.length + 1 - (q + 1) = f by omega]
     ·
      rw [if_neg hd, decide_eq_false hd] at hQ hv
      refine callV0 (nsubE_fn (a := r + r) (b := D) (by omega) (by omega) (by omega)) rfl rfl ?_
      cases hbit : L.getD q false with
      | true =>
       rw [hbit, if_neg (by simp)] at hQ
       refine runW ?_
       exact endW [some 0] hQ
      | false =>
       have hz : r + r ≠ 0 := by omega
       rw [hbit, if_pos (show false = false ∧ r + r ≠ 0 from ⟨rfl, hz⟩)] at hv
       refine runW ?_
       refine callV0 (zero_fn (n := r + r) (by omega)) rfl rfl ?_
       rw [decide_eq_false hz]
       refine runW ?_
       refine nextW (r + r, q + 1) [some 0, some 1, some 2, some 5] ⟨by simp only; omega, by simp only; omega, by simp only; omega, ?_⟩ (by simp only; omega)
       simp only
       rw [hv, if_neg (show ¬ r + r = D by omega), show L.length + 1 - (q + 1) = f by omega]
    ·
     rw [if_neg hin] at hQ
     have hqe : q = L.length := by omega
     rw [hqe]
     simp (maxSteps := 1000000) (disch := (first | omega | (simp only [lnA, List.length_map, List.length_range, true_and, and_true]; (try omega); done) | fail)) only [go_sem, decide_eq_true hc, Int.reduceEq, Int.reduceToNat, Nat.reduceAdd, Nat.reduceMul, Nat.reduceEqDiff, ↓reduceIte]
     refine callW [some 0] [] (flipE_fn (L := L) (p := L.length) (d := false) hL (.inr rfl)) ?_
     refine runW ?_
     exact endW [some 0] hQ
end Go.Proofs.YtpkfddfkacijoaaGreatDoor

namespace Go.Proofs.YtpkfddfkacijoaaGreatDoor
open Go.Eng Go.Vx
set_option linter.unusedSimpArgs false
set_option linter.unusedVariables false
set_option maxRecDepth 100000
theorem ratR_cases {L : List Bool} {D : Nat} : ∀ f r p, p ≤ L.length → ratR L D f r p = (false, 8, L.length, true) ∨ ∃ b q, ratR L D f r p = (b, 0, q, false) ∧ p < q ∧ q ≤ L.length
 | 0, _, _, _ => .inl rfl
 | f + 1, r, p, hp => by
  rw [ratR_succ]
  by_cases h : p < L.length
  ·
   rw [if_pos h]
   by_cases hc : L.getD p false = decide (D ≤ r + r) ∧ (if D ≤ r + r then r + r - D else r + r) ≠ 0
   ·
    rw [if_pos hc]
    rcases ratR_cases f (if D ≤ r + r then r + r - D else r + r) (p + 1) h with e | ⟨b, q, e, h1, h2⟩
    ·
     exact .inl e
    ·
     exact .inr ⟨b, q, e, by omega, h2⟩
   ·
    rw [if_neg hc]
    exact .inr ⟨_, _, rfl, by omega, h⟩
  ·
   rw [if_neg h]
   exact .inl rfl
def goodB (P D : Nat) : Prop := ¬ (D = 0 ∨ D < P)
theorem ratX_cases {L : List Bool} {P D p : Nat} (hg : goodB P D) (hp : p ≤ L.length) : ratX L P D p = (false, 8, L.length, true) ∨ ∃ b q, ratX L P D p = (b, 0, q, false) ∧ p ≤ q ∧ q ≤ L.length := by
 unfold ratX
 rw [if_neg hg]
 split
 ·
  exact .inr ⟨_, _, rfl, Nat.le_refl _, hp⟩
 ·
  split
  ·
   exact .inr ⟨_, _, rfl, Nat.le_refl _, hp⟩
  ·
   rcases ratR_cases (L := L) (D := D) (L.length + 1 - p) P p hp with e | ⟨b, q, e, h1, h2⟩
   ·
    exact .inl e
   ·
    exact .inr ⟨b, q, e, by omega, h2⟩
def powR (L : List Bool) (P D : Nat) : Nat → Nat → Bool × Int × Nat × Bool
 | 0, p => (true, 0, p, false)
 | k + 1, p => if (ratX L P D p).1 then powR L P D k (ratX L P D p).2.2.1 else ratX L P D p
def powX (L : List Bool) (P D K p : Nat) : Bool × Int × Nat × Bool := if D = 0 ∨ D < P then (false, 2, p, false) else powR L P D K p
end Go.Proofs.YtpkfddfkacijoaaGreatDoor

namespace Go.Proofs.YtpkfddfkacijoaaGreatDoor
open Go.Eng Go.Vx
set_option linter.unusedSimpArgs false
set_option linter.unusedVariables false
set_option maxRecDepth 100000
theorem rnumE_fn {B : List Int} {p w : Nat} (hI : IsB B) (hB : B.length ≤ 1099511627776) (hw : w ≤ 64) (hp : 8 * B.length < p + w) (hp2 : p ≤ 8 * B.length) : Fn1 Tryz.prog 50 [.ref 0 0 0 0, .lit (.int .i64 (w : Int))] [some (rdC B p)] (.tup [.lit (.int .u64 0), .lit (.int .i64 5)]) [some (rdC B p)] := by
 refine fn1N_of pl50 (by kernel_rfl) Tryz.call50 Tryz.func50 rfl (by kernel_rfl) rfl [.tmp 4, .tmp 5] (by kernel_rfl) fun Q hQ => ?_
 simp (maxSteps := 1000000) (disch := (first | omega | (simp only [lnA, List.length_map, List.length_range, true_and, and_true]; (try omega); done) | fail)) only [go_sem, Int.reduceEq, Int.reduceToNat, Nat.reduceAdd, Nat.reduceMul, Nat.reduceEqDiff, ↓reduceIte]
 refine callV0 (bgood_fn) rfl rfl ?_
 rw [decide_eq_true (show (0 : Int) ≤ (w : Int) ∧ (w : Int) ≤ 64 by omega)]
 simp (maxSteps := 1000000) (disch := (first | omega | (simp only [lnA, List.length_map, List.length_range, true_and, and_true]; (try omega); done) | fail)) only [go_sem, Bool.not_true, Int.reduceEq, Int.reduceToNat, Nat.reduceAdd, Nat.reduceMul, Nat.reduceEqDiff, ↓reduceIte]
 refine callW [some 0] [] (left_fn (p := p) hB (by omega)) ?_
 simp (maxSteps := 1000000) (disch := (first | omega | (simp only [lnA, List.length_map, List.length_range, true_and, and_true]; (try omega); done) | fail)) only [go_sem, Int.reduceEq, Int.reduceToNat, Nat.reduceAdd, Nat.reduceMul, Nat.reduceEqDiff, ↓reduceIte]
 exact endW [some 0] hQ
end Go.Proofs.YtpkfddfkacijoaaGreatDoor
