import Derived.Test.YtdmdmdoeahhkiaaGreatDoorZ2
import Derived.Test.YtdmdmdoeahhkiaaGreatDoorFa
import Derived.Test.YtdmdmdoeahhkiaaGreatDoorYe
import Derived.Test.YtdmdmdoeahhkiaaGreatDoorN2
namespace Go.Proofs.YtdmdmdoeahhkiaaGreatDoor
open Go.Eng Go.Vx
set_option linter.unusedSimpArgs false
set_option linter.unusedVariables false
set_option maxRecDepth 100000
theorem rat_div_eq {x y : Rat} : ((x.num * (y.den : Int) : Int) : Rat) / ((y.num * (x.den : Int) : Int) : Rat) = x / y := by
  rw [← Rat.divInt_eq_div, Rat.div_def x y, Rat.inv_def]
  conv => rhs; rw [← Rat.num_divInt_den x]
  rw [Rat.divInt_mul_divInt, Int.mul_comm y.num]
theorem rat_num_ne {y : Rat} (h : y ≠ 0) : y.num ≠ 0 := fun e => h (Rat.num_eq_zero.1 e)
theorem RS_div {k l : Nat} {x y : Rat} (hk : 1 ≤ k + l) (hx : RS k x) (hy : RS l y) : RS (k + l) (x / y) := by
  by_cases h : y = 0
  · subst h
    have e : x / 0 = 0 := by rw [Rat.div_def, Rat.inv_zero, Rat.mul_zero]
    rw [e]
    exact ⟨by rw [show (0 : Rat).num.natAbs = 0 from rfl, wg_zero]; exact Nat.zero_le _, Nat.le_trans (wg_one (by decide)) hk⟩
  · have hn0 : y.num * (x.den : Int) ≠ 0 := Int.mul_ne_zero (rat_num_ne h) (by have := x.den_nz; omega)
    rw [← rat_div_eq, ← frac_eq hn0]
    refine RS_mk (by omega) ?_ ?_
    · rw [sg_abs]
      exact len_mulZ hx.1 (by simp only [Int.natAbs_natCast]; exact hy.2)
    · have := len_mulZ (x := y.num) (y := (x.den : Int)) hy.1 (by simp only [Int.natAbs_natCast]; exact hx.2)
      omega
theorem rfloor_fn {x : Rat} (hx : RS 400000 x) : Fn1 Tryz.prog 179 [RV x] [] (WV x.floor) [] := by
  obtain ⟨hx1, hx2⟩ := hx
  have hd := wdiv_fn (x := x.num) (y := (x.den : Int)) (by have := x.den_nz; omega) (by omega) (by simp only [Int.natAbs_natCast]; omega)
  rw [← Rat.floor_def] at hd
  refine fn1N_of pl179 (by kernel_rfl) Tryz.call179 Tryz.func179 rfl (by kernel_rfl) rfl [.cell 2 46] (by kernel_rfl) fun Q hQ => ?_
  refine runW ?_
  refine callV0 (rdenw_fn (x := x) (by omega)) rfl rfl ?_
  refine runW ?_
  refine callV0 (hd) rfl rfl ?_
  refine runW ?_
  exact endW [] hQ
end Go.Proofs.YtdmdmdoeahhkiaaGreatDoor

namespace Go.Proofs.YtdmdmdoeahhkiaaGreatDoor
open Go.Eng Go.Vx
set_option linter.unusedSimpArgs false
set_option linter.unusedVariables false
set_option maxRecDepth 100000
theorem ratR_cases {L : List Bool} {D : Nat} : ∀ f r p, p ≤ L.length → ratR L D f r p = (false, 8, L.length, true) ∨ ∃ b q, ratR L D f r p = (b, 0, q, false) ∧ p < q ∧ q ≤ L.length
  | 0, _, _, _ => .inl rfl
  | f + 1, r, p, hp => by
    rw [ratR_succ]
    by_cases h : p < L.length
    · rw [if_pos h]
      by_cases hc : L.getD p false = decide (D ≤ r + r) ∧ (if D ≤ r + r then r + r - D else r + r) ≠ 0
      · rw [if_pos hc]
        rcases ratR_cases f (if D ≤ r + r then r + r - D else r + r) (p + 1) h with e | ⟨b, q, e, h1, h2⟩
        · exact .inl e
        · exact .inr ⟨b, q, e, by omega, h2⟩
      · rw [if_neg hc]
        exact .inr ⟨_, _, rfl, by omega, h⟩
    · rw [if_neg h]
      exact .inl rfl
def goodB (P D : Nat) : Prop := ¬ (D = 0 ∨ D < P)
theorem ratX_cases {L : List Bool} {P D p : Nat} (hg : goodB P D) (hp : p ≤ L.length) : ratX L P D p = (false, 8, L.length, true) ∨ ∃ b q, ratX L P D p = (b, 0, q, false) ∧ p ≤ q ∧ q ≤ L.length := by
  unfold ratX
  rw [if_neg hg]
  split
  · exact .inr ⟨_, _, rfl, Nat.le_refl _, hp⟩
  · split
    · exact .inr ⟨_, _, rfl, Nat.le_refl _, hp⟩
    · rcases ratR_cases (L := L) (D := D) (L.length + 1 - p) P p hp with e | ⟨b, q, e, h1, h2⟩
      · exact .inl e
      · exact .inr ⟨b, q, e, by omega, h2⟩
def powR (L : List Bool) (P D : Nat) : Nat → Nat → Bool × Int × Nat × Bool
  | 0, p => (true, 0, p, false)
  | k + 1, p => if (ratX L P D p).1 then powR L P D k (ratX L P D p).2.2.1 else ratX L P D p
def powX (L : List Bool) (P D K p : Nat) : Bool × Int × Nat × Bool := if D = 0 ∨ D < P then (false, 2, p, false) else powR L P D K p
end Go.Proofs.YtdmdmdoeahhkiaaGreatDoor

namespace Go.Proofs.YtdmdmdoeahhkiaaGreatDoor
open Go.Eng Go.Vx
set_option linter.unusedSimpArgs false
set_option linter.unusedVariables false
set_option maxRecDepth 100000
theorem sla24 {ob : Ob} {k : Nat} {F : FV} (h : 24 ≤ obN ob) (hk : k ≤ 24) : slaV Tryz.prog 236 0 none (some (.lit (.int .i64 (k : Int)))) [some ob] F = F true (.sl 0 1 0 k) := by
  rw [slaV_of (n := 24) (et := 5) (z := 1) (by kernel_rfl) (ob := ob) rfl (by omega)]
  simp only [bdoK, bdK]
  rw [if_pos (by omega)]
  simp
@[go_sem] theorem rc24 : rowC ((List.replicate 24 (0 : Int)).map (ie .u8)) = some [.lit (.int .u8 0), .lit (.int .u8 0), .lit (.int .u8 0), .lit (.int .u8 0), .lit (.int .u8 0), .lit (.int .u8 0), .lit (.int .u8 0), .lit (.int .u8 0), .lit (.int .u8 0), .lit (.int .u8 0), .lit (.int .u8 0), .lit (.int .u8 0), .lit (.int .u8 0), .lit (.int .u8 0), .lit (.int .u8 0), .lit (.int .u8 0), .lit (.int .u8 0), .lit (.int .u8 0), .lit (.int .u8 0), .lit (.int .u8 0), .lit (.int .u8 0), .lit (.int .u8 0), .lit (.int .u8 0), .lit (.int .u8 0)] := (rfl)
theorem ch_bytes (l : List Nat) : (l.map ch).map (fun n => UInt8.ofNat n.toNat) = decB l := by
  unfold decB
  rw [List.map_map]
  rfl
theorem uint10_fn {u : Nat} (h : u < 18446744073709551616) : Fn1 Tryz.prog 132 [.lit (.int .u64 (u : Int)), .lit (.int .i64 10)] [] (.lit (.string (bs (decS u)))) [] := by
  refine fn1N_of pl132 (by kernel_rfl) Tryz.call132 Tryz.func132 rfl (by kernel_rfl) rfl [.tmp 4] (by kernel_rfl) fun Q hQ => ?_
  by_cases h1 : u < 100
  · refine runW ?_
    refine callV0 (small_fn10 h1) rfl rfl ?_
    refine runW ?_
    exact endW [] hQ
  · have hn := numDigits_fn (d := u) (by omega) h
    have hl := nd10_lt u
    have hle : nd10 u ≤ 20 := (nd10_le (by decide)).2 (by omega)
    have hlen := decL_len (nd10 u) u
    have hlt := decL_lt (nd10 u) u
    have hf := fmt10_fn (L := List.replicate 24 0) (n := nd10 u) (u := u) (by rw [List.length_replicate]; omega) (by decide) hl h
    have hA := fun F => sla24 (ob := .cells [.lit (.int .u8 0), .lit (.int .u8 0), .lit (.int .u8 0), .lit (.int .u8 0), .lit (.int .u8 0), .lit (.int .u8 0), .lit (.int .u8 0), .lit (.int .u8 0), .lit (.int .u8 0), .lit (.int .u8 0), .lit (.int .u8 0), .lit (.int .u8 0), .lit (.int .u8 0), .lit (.int .u8 0), .lit (.int .u8 0), .lit (.int .u8 0), .lit (.int .u8 0), .lit (.int .u8 0), .lit (.int .u8 0), .lit (.int .u8 0), .lit (.int .u8 0), .lit (.int .u8 0), .lit (.int .u8 0), .lit (.int .u8 0)]) (k := nd10 u) (F := F) (by decide) (by omega)
    have hB := fun F => sla24 (ob := .row 1 (((decL (nd10 u) u).map ch ++ (List.replicate 24 0).drop (nd10 u)).map (ie .u8))) (k := nd10 u) (F := F) (by simp only [obN, List.length_map, List.length_append, hlen, List.length_drop, List.length_replicate]; omega) (by omega)
    unfold decS at hQ
    generalize nd10 u = n at *
    refine runW ?_
    refine callV0 (hn) rfl rfl ?_
    simp (maxSteps := 1000000) (disch := (first | omega | (simp only [lnA, List.length_map, List.length_range, true_and, and_true]; (try omega); done) | fail)) only [go_sem, hA, Int.reduceEq, Int.reduceToNat, Nat.reduceAdd, Nat.reduceMul, Nat.reduceEqDiff, ↓reduceIte]
    refine callW [some 0] [] (hf) ?_
    simp (maxSteps := 1000000) (disch := (first | omega | (simp only [lnA, List.length_map, List.length_range, true_and, and_true]; (try omega); done) | fail)) only [go_sem, hB, Int.reduceEq, Int.reduceToNat, Nat.reduceAdd, Nat.reduceMul, Nat.reduceEqDiff, ↓reduceIte]
    have hm : ((decL n u).map ch).length = n := by rw [List.length_map]; exact hlen
    rw [List.take_left' hm, ch_bytes]
    exact endW [] hQ
theorem fuint_fn {u : Nat} (h : u < 18446744073709551616) : Fn1 Tryz.prog 83 [.lit (.int .u64 (u : Int)), .lit (.int .i64 10)] [] (.lit (.string (bs (decS u)))) [] := by
  refine fn1N_of pl83 (by kernel_rfl) Tryz.call83 Tryz.func83 rfl (by kernel_rfl) rfl [.tmp 4] (by kernel_rfl) fun Q hQ => ?_
  refine runW ?_
  refine callV0 (uint10_fn h) rfl rfl ?_
  refine runW ?_
  exact endW [] hQ
end Go.Proofs.YtdmdmdoeahhkiaaGreatDoor
