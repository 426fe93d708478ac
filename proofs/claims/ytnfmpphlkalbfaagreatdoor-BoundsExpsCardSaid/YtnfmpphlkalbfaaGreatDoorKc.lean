import Derived.Test.YtnfmpphlkalbfaaGreatDoorQd
import Derived.Test.YtnfmpphlkalbfaaGreatDoorKu
import Derived.Test.YtnfmpphlkalbfaaGreatDoorT1
/-! Package bounds: what is rounded. -/
namespace Go.Proofs.YtnfmpphlkalbfaaGreatDoor
open Go.Eng Go.Vx
set_option linter.unusedSimpArgs false
set_option linter.unusedVariables false
set_option maxRecDepth 100000
theorem two_fn {N : Nat} (hN : N ≤ 8192) : Fn1 Tryz.prog 40 [.lit (.int .i64 (N : Int))] [] (RV (tw N)) [] := by
  have l1 : (wg 1).length ≤ 1 := wg_one (by decide)
  have s := shl_fn (v := 1) hN (by omega)
  rw [Nat.one_mul] at s
  have o := of1_fn (x := 1) (by decide)
  have hb := bl_two (N := N) (K := 8193) (by omega)
  have l2 : (wg (2 ^ N)).length ≤ 129 := wg_bl (by omega)
  have rn := rnat_fn (n := 2 ^ N) (by omega)
  unfold tw
  generalize (((2 ^ N : Nat) : Int) : Rat) = r at *
  generalize 2 ^ N = two at *
  refine fn1N_of pl40 (by kernel_rfl) Tryz.call40 Tryz.func40 rfl (by kernel_rfl) rfl [.cell 2 31] (by kernel_rfl) fun Q hQ => ?_
  simp (maxSteps := 1000000) (disch := (first | omega | (simp only [lnA, List.length_map, List.length_range, true_and, and_true]; (try omega); done) | fail)) only [go_sem, Int.reduceEq, Int.reduceToNat, Nat.reduceAdd, Nat.reduceMul, Nat.reduceEqDiff, ↓reduceIte]
  refine callW [] [1] (o) ?_
  simp (maxSteps := 1000000) (disch := (first | omega | (simp only [lnA, List.length_map, List.length_range, true_and, and_true]; (try omega); done) | fail)) only [go_sem, Int.reduceEq, Int.reduceToNat, Nat.reduceAdd, Nat.reduceMul, Nat.reduceEqDiff, ↓reduceIte]
  refine callV0 (s) rfl rfl ?_
  simp (maxSteps := 1000000) (disch := (first | omega | (simp only [lnA, List.length_map, List.length_range, true_and, and_true]; (try omega); done) | fail)) only [go_sem, Int.reduceEq, Int.reduceToNat, Nat.reduceAdd, Nat.reduceMul, Nat.reduceEqDiff, ↓reduceIte]
  refine callV0 (rn) rfl rfl ?_
  simp (maxSteps := 1000000) (disch := (first | omega | (simp only [lnA, List.length_map, List.length_range, true_and, and_true]; (try omega); done) | fail)) only [go_sem, Int.reduceEq, Int.reduceToNat, Nat.reduceAdd, Nat.reduceMul, Nat.reduceEqDiff, ↓reduceIte]
  exact endW [] hQ
theorem halfB_fn {N : Nat} (hN : N ≤ 8192) : Fn1 Tryz.prog 39 [.lit (.int .i64 (N : Int))] [] (RV (hf N)) [] := by
  have h := rhalf_fn hN
  unfold hf
  refine fn1N_of pl39 (by kernel_rfl) Tryz.call39 Tryz.func39 rfl (by kernel_rfl) rfl [.cell 2 31] (by kernel_rfl) fun Q hQ => ?_
  repeat (first | (refine callV0 (h) rfl rfl ?_) | (simp (maxSteps := 1000000) (disch := (first | omega | (simp only [lnA, List.length_map, List.length_range, true_and, and_true]; (try omega); done) | fail)) only [go_sem, Int.reduceEq, Int.reduceToNat, Nat.reduceAdd, Nat.reduceMul, Nat.reduceEqDiff, ↓reduceIte]))
  exact endW [] hQ
theorem RS_tw {N : Nat} (hN : N ≤ 8192) : RS 129 (tw N) := by
  have hb := bl_two (N := N) (K := 8193) (by omega)
  exact RS_int (by rw [Int.natAbs_natCast]; exact wg_bl (by omega)) (by decide)
theorem RS_hf {N : Nat} (hN : N ≤ 8192) : RS 129 (hf N) := by
  have hb := bl_two (N := N) (K := 8193) (by omega)
  exact RS_mk (Nat.ne_of_gt (Nat.pow_pos (by decide))) (Nat.le_trans (wg_one (by decide)) (by decide)) (wg_bl (by omega))
theorem floor_len {x : Rat} {k : Nat} (h : RS k x) : (wg x.floor.natAbs).length ≤ k := by
  rw [Rat.floor_def]
  exact Nat.le_trans (wg_mono (Int.natAbs_ediv_le_natAbs _ _)) h.1
theorem floorB_fn {x : Rat} (hx : RS 400000 x) : Fn1 Tryz.prog 67 [RV x] [] (RV (x.floor : Rat)) [] := by
  have f := rfloor_fn hx
  have l := floor_len hx
  have w := wof_fn (n := 1) (by decide) (by decide)
  have r := rfrac_fn (p := x.floor) (q := 1) (by decide) (by omega) (show (wg 1).length ≤ _ from Nat.le_trans (wg_one (by decide)) (by decide))
  rw [show ((1 : Int) : Rat) = 1 from rfl, show (x.floor : Rat) / 1 = (x.floor : Rat) by grind] at r
  generalize (x.floor : Rat) = y at *
  generalize x.floor = z at *
  refine fn1N_of pl67 (by kernel_rfl) Tryz.call67 Tryz.func67 rfl (by kernel_rfl) rfl [.cell 2 31] (by kernel_rfl) fun Q hQ => ?_
  repeat (first | (refine callV0 (f) rfl rfl ?_) | (refine callV0 (w) rfl rfl ?_) | (refine callV0 (r) rfl rfl ?_) | (simp (maxSteps := 1000000) (disch := (first | omega | (simp only [lnA, List.length_map, List.length_range, true_and, and_true]; (try omega); done) | fail)) only [go_sem, Int.reduceEq, Int.reduceToNat, Nat.reduceAdd, Nat.reduceMul, Nat.reduceEqDiff, ↓reduceIte]))
  exact endW [] hQ
theorem RS_zero : RS 1 (0 : Rat) := RS_int (z := 0) (wg_one (by decide)) (by decide)
theorem minusB_fn {x : Rat} (hx : RS 400000 x) : Fn1 Tryz.prog 36 [RV x] [] (RV (0 - x)) [] := by
  have r := rsub_fn (RS_zero.mono (show 1 ≤ 400000 by decide)) hx
  rw [RV_zero] at r
  generalize (0 : Rat) - x = y at *
  refine fn1N_of pl36 (by kernel_rfl) Tryz.call36 Tryz.func36 rfl (by kernel_rfl) rfl [.cell 2 31] (by kernel_rfl) fun Q hQ => ?_
  simp (maxSteps := 1000000) (disch := (first | omega | (simp only [lnA, List.length_map, List.length_range, true_and, and_true]; (try omega); done) | fail)) only [go_sem, Int.reduceEq, Int.reduceToNat, Nat.reduceAdd, Nat.reduceMul, Nat.reduceEqDiff, ↓reduceIte]
  refine callW [] [] (r) ?_
  simp (maxSteps := 1000000) (disch := (first | omega | (simp only [lnA, List.length_map, List.length_range, true_and, and_true]; (try omega); done) | fail)) only [go_sem, Int.reduceEq, Int.reduceToNat, Nat.reduceAdd, Nat.reduceMul, Nat.reduceEqDiff, ↓reduceIte]
  exact endW [] hQ
theorem RS_fl {x : Rat} {k : Nat} (hk : 1 ≤ k) (h : RS k x) : RS k ((x.floor : Int) : Rat) := RS_int (floor_len h) hk
theorem RS_dn' {x : Rat} {k B : Nat} (hB : B ≤ 8192) (h : RS k x) : RS (k + 129 + 129) (dn x B) :=
  RS_mul (RS_fl (by omega) (RS_mul h (RS_tw hB))) (RS_hf hB)
theorem RS_up' {x : Rat} {k B : Nat} (hB : B ≤ 8192) (h : RS k x) : RS (1 + k + 1 + 129 + 129 + 1 + 1) (up x B) :=
  (RS_sub RS_zero (RS_dn' hB (RS_sub RS_zero h))).mono (by omega)
theorem down_fn {x : Rat} {bits : Int} {B : Nat} (hB : max 0 (min bits 512) = (B : Int)) (hx : RS 100000 x) : Fn1 Tryz.prog 23 [RV x, .lit (.int .i64 bits)] [] (RV (dn x B)) [] := by
  have hB2 : B ≤ 512 := by omega
  have t := two_fn (N := B) (by omega)
  have h := halfB_fn (N := B) (by omega)
  have st := RS_tw (N := B) (by omega)
  have sh := RS_hf (N := B) (by omega)
  have sm := RS_mul hx st
  have m1 := rmul_fn (hx.mono (show 100000 ≤ 400000 by decide)) (st.mono (show 129 ≤ 400000 by decide))
  have f := floorB_fn (sm.mono (by decide))
  have m2 := rmul_fn ((RS_fl (by decide) sm).mono (by decide)) (sh.mono (show 129 ≤ 400000 by decide))
  unfold dn
  generalize ((x * tw B).floor : Rat) * hf B = r1 at *
  generalize ((x * tw B).floor : Rat) = r2 at *
  generalize x * tw B = r3 at *
  generalize tw B = r4 at *
  generalize hf B = r5 at *
  refine fn1N_of pl23 (by kernel_rfl) Tryz.call23 Tryz.func23 rfl (by kernel_rfl) rfl [.cell 4 31] (by kernel_rfl) fun Q hQ => ?_
  repeat (first | (refine callV0 (t) rfl rfl ?_) | (refine callV0 (h) rfl rfl ?_) | (refine callV0 (m1) rfl rfl ?_) | (refine callV0 (f) rfl rfl ?_) | (refine callV0 (m2) rfl rfl ?_) | (simp (maxSteps := 1000000) (disch := (first | omega | (simp only [lnA, List.length_map, List.length_range, true_and, and_true]; (try omega); done) | fail)) only [go_sem, hB, Int.reduceEq, Int.reduceToNat, Nat.reduceAdd, Nat.reduceMul, Nat.reduceEqDiff, ↓reduceIte]))
  exact endW [] hQ
theorem upB_fn {x : Rat} {bits : Int} {B : Nat} (hB : max 0 (min bits 512) = (B : Int)) (hx : RS 90000 x) : Fn1 Tryz.prog 24 [RV x, .lit (.int .i64 bits)] [] (RV (up x B)) [] := by
  have sm := RS_sub RS_zero hx
  have m := minusB_fn (hx.mono (show 90000 ≤ 400000 by decide))
  have d := down_fn hB (sm.mono (show 1 + 90000 + 1 ≤ 100000 by decide))
  have m2 := minusB_fn ((RS_dn' (B := B) (by omega) sm).mono (show _ ≤ 400000 by decide))
  unfold up
  generalize 0 - dn (0 - x) B = r1 at *
  generalize dn (0 - x) B = r2 at *
  generalize 0 - x = r3 at *
  refine fn1N_of pl24 (by kernel_rfl) Tryz.call24 Tryz.func24 rfl (by kernel_rfl) rfl [.cell 4 31] (by kernel_rfl) fun Q hQ => ?_
  repeat (first | (refine callV0 (m) rfl rfl ?_) | (refine callV0 (d) rfl rfl ?_) | (refine callV0 (m2) rfl rfl ?_) | (simp (maxSteps := 1000000) (disch := (first | omega | (simp only [lnA, List.length_map, List.length_range, true_and, and_true]; (try omega); done) | fail)) only [go_sem, Int.reduceEq, Int.reduceToNat, Nat.reduceAdd, Nat.reduceMul, Nat.reduceEqDiff, ↓reduceIte]))
  exact endW [] hQ
theorem rcmp_le {x y : Rat} (hx : RS 400000 x) (hy : RS 400000 y) (h : x ≤ y) : ∃ c : Int, c ≤ 0 ∧ Fn1 Tryz.prog 12 [RV x, RV y] [] (.lit (.int .i64 c)) [] :=
  ⟨cmpQ x y, Int.not_lt.1 fun e => Rat.not_lt.2 h (cmpQ_pos.1 e), rcmp_fn hx hy⟩
theorem rcmp_ge {x y : Rat} (hx : RS 400000 x) (hy : RS 400000 y) (h : y ≤ x) : ∃ c : Int, 0 ≤ c ∧ Fn1 Tryz.prog 12 [RV x, RV y] [] (.lit (.int .i64 c)) [] :=
  ⟨cmpQ x y, Int.not_lt.1 fun e => Rat.not_lt.2 h (cmpQ_neg.1 e), rcmp_fn hx hy⟩
theorem rcmp_lt {x y : Rat} (hx : RS 400000 x) (hy : RS 400000 y) (h : x < y) : ∃ c : Int, c < 0 ∧ Fn1 Tryz.prog 12 [RV x, RV y] [] (.lit (.int .i64 c)) [] :=
  ⟨cmpQ x y, cmpQ_neg.2 h, rcmp_fn hx hy⟩
theorem rcmp_gt {x y : Rat} (hx : RS 400000 x) (hy : RS 400000 y) (h : y < x) : ∃ c : Int, 0 < c ∧ Fn1 Tryz.prog 12 [RV x, RV y] [] (.lit (.int .i64 c)) [] :=
  ⟨cmpQ x y, cmpQ_pos.2 h, rcmp_fn hx hy⟩
end Go.Proofs.YtnfmpphlkalbfaaGreatDoor

/-! Package bounds: e to the x, held against others (plain). -/
namespace Go.Proofs.YtnfmpphlkalbfaaGreatDoor
set_option linter.unusedVariables false
theorem tau_far {x : Rat} (h0 : 0 ≤ x) (h1 : x ≤ 4) {n : Nat} (hn : 24 ≤ n) : tau x (n + 1) ≤ tau x n * (1 / 2) := by
  have h := tau_nonneg h0 n
  have h2 := tau_mul x n
  have h3 : (8 : Rat) ≤ (((n + 1 : Nat) : Int) : Rat) := nat_le (show 8 ≤ n + 1 by omega)
  have h4 := tau_nonneg h0 (n + 1)
  generalize (((n + 1 : Nat) : Int) : Rat) = k at *
  have h5 : 8 * tau x (n + 1) ≤ k * tau x (n + 1) := Rat.mul_le_mul_of_nonneg_right h3 h4
  have h6 : x * tau x n ≤ 4 * tau x n := Rat.mul_le_mul_of_nonneg_right h1 h
  grind
theorem Sx_far {x : Rat} (h0 : 0 ≤ x) (h1 : x ≤ 4) {n m : Nat} (hn : 24 ≤ n) (h : n ≤ m) : Sx x m + tau x m ≤ Sx x n + tau x n := by
  induction h with
  | refl => exact Rat.le_refl
  | step hk ih =>
    rename_i k
    have := tau_far h0 h1 (n := k) (Nat.le_trans hn hk)
    rw [show Sx x (k + 1) = Sx x k + tau x (k + 1) from rfl]
    grind
theorem exp_meet {x L H : Rat} (h0 : 0 ≤ x) (h1 : x ≤ 4) (h : ExpB x L H) : L ≤ Sx x 24 + tau x 24 ∧ Sx x 24 ≤ H := by
  obtain ⟨N, hN⟩ := h.lo
  refine ⟨?_, h.hi 24⟩
  have t := tau_nonneg h0 24
  by_cases hc : N ≤ 24
  · have := Sx_mono h0 hc
    grind
  · have := Sx_far h0 h1 (Nat.le_refl 24) (show 24 ≤ N by omega)
    have := tau_nonneg h0 N
    grind
theorem exp_half {x L H l h : Rat} (h0 : 0 ≤ x) (ha : ExpB x L H) (hc : ExpB (x / 2) l h) (hl : 1 ≤ l) : L ≤ h * h ∧ l * l ≤ H := by
  have e : 2 * (x / 2) = x := by grind
  have hy : 0 ≤ x / 2 := by grind
  generalize x / 2 = y at *
  subst e
  constructor
  · obtain ⟨N, hN⟩ := ha.lo
    have h1 := Sx_sq_ge hy N
    have h2 := hc.hi N
    have h3 := mul_le_mul' h2 h2 (Sx_pos hy N) (by have := Sx_pos hy N; grind)
    grind
  · obtain ⟨N, hN⟩ := hc.lo
    have h1 := Sx_sq_le hy N
    have h2 := ha.hi (2 * N + 1)
    have h3 := mul_le_mul' hN hN (by grind) (Sx_pos hy N)
    grind
theorem Sx_zero (N : Nat) : Sx 0 N = 1 := by
  induction N with
  | zero => rfl
  | succ n ih =>
    rw [show Sx 0 (n + 1) = Sx 0 n + tau 0 (n + 1) from rfl, ih, show tau 0 (n + 1) = tau 0 n * (0 * (1 / ((n + 1 : Nat) : Int))) from rfl]
    grind
theorem exp_zero {L H : Rat} (h : ExpB 0 L H) (hl : 1 ≤ L) : L = 1 ∧ 1 ≤ H := by
  obtain ⟨N, hN⟩ := h.lo
  have := h.hi 0
  rw [Sx_zero] at hN this
  exact ⟨by grind, this⟩
end Go.Proofs.YtnfmpphlkalbfaaGreatDoor
