import Derived.Test.YtdmdmdoeahhkiaaDoorAi
import Derived.Test.YtdmdmdoeahhkiaaDoorAd
namespace Go.Proofs.YtdmdmdoeahhkiaaDoor
open Go.Eng Go.Vx
set_option linter.unusedSimpArgs false
set_option linter.unusedVariables false
set_option maxRecDepth 100000
theorem rcmpG_ge {x y : Rat} (hx : RS 400000 x) (hy : RS 400000 y) (h : y ≤ x) : ∃ c : Int, 0 ≤ c ∧ Fn1 Tryd.prog 19 [RV x, RV y] [] (.lit (.int .i64 c)) [] := by
  refine ⟨cmpQ x y, ?_, rcmp_fn hx hy⟩
  unfold cmpQ
  rw [if_neg (Rat.not_lt.2 h)]
  split <;> decide
theorem rcmpG_le {x y : Rat} (hx : RS 400000 x) (hy : RS 400000 y) (h : x ≤ y) : ∃ c : Int, c ≤ 0 ∧ Fn1 Tryd.prog 19 [RV x, RV y] [] (.lit (.int .i64 c)) [] := by
  refine ⟨cmpQ x y, ?_, rcmp_fn hx hy⟩
  unfold cmpQ
  split
  · decide
  · rw [if_neg (Rat.not_lt.2 h)]
    decide
theorem value22_fn {K C : Int} {P n r : Nat} (h : goodA K P C) (hn : n ≤ 1048576) (hr : r ≤ 1048576) : Fn1 Tryd.prog 18 [.agg [.lit (.int .i64 K), .lit (.int .i64 (P : Int)), .lit (.int .i64 C)], .lit (.int .i64 (n : Int)), .lit (.int .i64 (r : Int))] []
    (RV (estV K P n (0, r))) [] := by
  unfold estV
  dsimp only
  have hP : P ≤ 8 := by obtain ⟨h, _⟩ := h; omega
  rcases Nat.eq_zero_or_pos n with h0 | h0
  · subst h0
    have e : (((0 : Nat) : Int) : Rat) * dGe K P r = ((0 : Int) : Rat) := by
      rw [show (((0 : Nat) : Int) : Rat) = 0 from rfl, show ((0 : Int) : Rat) = 0 from rfl]
      grind
    rw [e]
    have o := rof_fn (n := 0) (by decide) (by decide)
    refine fn1N_of pl18 (by kernel_rfl) Tryd.call18 Tryd.func18 rfl (by kernel_rfl) rfl [.cell 6 33] (by kernel_rfl) fun Q hQ => ?_
    generalize ((0 : Int) : Rat) = z at *
    refine runW ?_
    refine callV0 (o) rfl rfl ?_
    refine runW ?_
    exact endW [] hQ
  have g1 := ag_fn (r := (r : Int)) (N := r) h (by omega)
  have g2 := ag_fn (r := (r : Int) - 1) (N := r - 1) h (by omega)
  have n1 := rnat_fn (n := gN K P r) (Nat.le_trans (gN_wg hP hr) (by decide))
  have n2 := rnat_fn (n := gN K P (r - 1)) (Nat.le_trans (gN_wg hP (by omega)) (by decide))
  have sb := rsub_fn (x := (((gN K P r : Nat) : Int) : Rat)) (y := (((gN K P (r - 1) : Nat) : Int) : Rat)) ((RS_int (k := 3) (by rw [Int.natAbs_natCast]; exact gN_wg hP hr) (by decide)).mono (by decide)) ((RS_int (k := 3) (by rw [Int.natAbs_natCast]; exact gN_wg hP (by omega)) (by decide)).mono (by decide))
  have o := rof_fn (n := (n : Int)) (by omega) (by omega)
  have o2 := rof_fn (n := 268435456) (by decide) (by decide)
  have dr := dG_RS (K := K) hP hr
  have der := dGe_RS (K := K) hP hr
  have dv := rdiv_fn (x := dG K P r) (y := ((268435456 : Int) : Rat)) (by decide) (dr.mono (by decide)) ((RS_one (by decide) (by decide)).mono (by decide))
  have ml := rmul_fn (x := (((n : Nat) : Int) : Rat)) (y := dGe K P r) ((RS_one (by omega) (by omega)).mono (by decide)) (der.mono (by decide))
  have e : (((gN K P r : Nat) : Int) : Rat) - (((gN K P (r - 1) : Nat) : Int) : Rat) = dG K P r := rfl
  rw [e] at sb
  refine fn1N_of pl18 (by kernel_rfl) Tryd.call18 Tryd.func18 rfl (by kernel_rfl) rfl [.cell 6 33] (by kernel_rfl) fun Q hQ => ?_
  by_cases hK : K = 2
  · have e2 : dGe K P r = dG K P r / ((268435456 : Int) : Rat) := if_pos hK
    rw [← e2] at dv
    generalize ((((n : Nat) : Int) : Rat) * dGe K P r) = rr at *
    generalize dGe K P r = de at *
    generalize dG K P r = dd at *
    generalize (((gN K P r : Nat) : Int) : Rat) = y1 at *
    generalize (((gN K P (r - 1) : Nat) : Int) : Rat) = y2 at *
    generalize (((n : Nat) : Int) : Rat) = nr at *
    generalize ((268435456 : Int) : Rat) = u at *
    generalize gN K P r = a at *
    generalize gN K P (r - 1) = b at *
    repeat (first | (refine callV0 (g1) rfl rfl ?_) | (refine callV0 (n1) rfl rfl ?_) | (refine callV0 (g2) rfl rfl ?_) | (refine callV0 (n2) rfl rfl ?_) | (refine callV0 (sb) rfl rfl ?_) | (refine callV0 (o2) rfl rfl ?_) | (refine callV0 (dv) rfl rfl ?_) | (refine callV0 (o) rfl rfl ?_) | (refine callV0 (ml) rfl rfl ?_) | (simp (maxSteps := 1000000) (disch := (first | omega | (simp only [lnA, List.length_map, List.length_range, true_and, and_true]; (try omega); done) | fail)) only [go_sem, decide_eq_true hK, Int.reduceEq, Int.reduceToNat, Nat.reduceAdd, Nat.reduceMul, Nat.reduceEqDiff, ↓reduceIte]))
    exact endW [] hQ
  · have e2 : dGe K P r = dG K P r := if_neg hK
    rw [← e2] at sb
    generalize ((((n : Nat) : Int) : Rat) * dGe K P r) = rr at *
    generalize dGe K P r = de at *
    generalize (((gN K P r : Nat) : Int) : Rat) = y1 at *
    generalize (((gN K P (r - 1) : Nat) : Int) : Rat) = y2 at *
    generalize (((n : Nat) : Int) : Rat) = nr at *
    generalize gN K P r = a at *
    generalize gN K P (r - 1) = b at *
    repeat (first | (refine callV0 (g1) rfl rfl ?_) | (refine callV0 (n1) rfl rfl ?_) | (refine callV0 (g2) rfl rfl ?_) | (refine callV0 (n2) rfl rfl ?_) | (refine callV0 (sb) rfl rfl ?_) | (refine callV0 (o) rfl rfl ?_) | (refine callV0 (ml) rfl rfl ?_) | (simp (maxSteps := 1000000) (disch := (first | omega | (simp only [lnA, List.length_map, List.length_range, true_and, and_true]; (try omega); done) | fail)) only [go_sem, decide_eq_false hK, Int.reduceEq, Int.reduceToNat, Nat.reduceAdd, Nat.reduceMul, Nat.reduceEqDiff, ↓reduceIte]))
    exact endW [] hQ
theorem sumE_zero' {K : Int} {P : Nat} : ∀ (X : List (Nat × Nat)), sumE K P 0 X = 0 := by
  intro X
  induction X with
  | nil => rfl
  | cons x X ih =>
    show estV K P 0 x + sumE K P 0 X = 0
    rw [ih]
    unfold estV
    rw [show (((0 : Nat) : Int) : Rat) = 0 from rfl]
    grind
theorem sumE_in {K : Int} {P N : Nat} {lo hi : Rat} : ∀ {X : List (Nat × Nat)}, (∀ x ∈ X, lo ≤ estV K P N x ∧ estV K P N x ≤ hi) → lo * vn X.length ≤ sumE K P N X ∧ sumE K P N X ≤ hi * vn X.length := by
  intro X
  induction X with
  | nil =>
    intro _
    show lo * vn 0 ≤ 0 ∧ 0 ≤ hi * vn 0
    rw [vn_zero]
    constructor <;> grind
  | cons x X ih =>
    intro h
    obtain ⟨a, b⟩ := ih fun y hy => h y (by simp [hy])
    obtain ⟨c, d⟩ := h x (by simp)
    show lo * vn (X.length + 1) ≤ estV K P N x + sumE K P N X ∧ estV K P N x + sumE K P N X ≤ hi * vn (X.length + 1)
    rw [vn_succ]
    constructor <;> grind
theorem div_in {a s b c : Rat} (hc : 0 < c) (h1 : a * c ≤ s) (h2 : s ≤ b * c) : a ≤ s / c ∧ s / c ≤ b := by
  have hi : 0 < c⁻¹ := Rat.inv_pos.2 hc
  have hv : c * c⁻¹ = 1 := Rat.mul_inv_cancel _ (Rat.ne_of_gt hc)
  have k1 := Rat.mul_le_mul_of_nonneg_right h1 (Rat.le_of_lt hi)
  have k2 := Rat.mul_le_mul_of_nonneg_right h2 (Rat.le_of_lt hi)
  rw [Rat.mul_assoc, hv, Rat.mul_one] at k1 k2
  rw [Rat.div_def]
  exact ⟨k1, k2⟩
theorem mean_alone {K : Int} {P N key : Nat} {X : List (Nat × Nat)} (h : ownA K P) (hN : N ≤ 15) (hX : 0 < X.length) (hA : N = 0 ∨ ∀ x ∈ X, alone key N x) :
    estV K P N (0, 1) ≤ sumE K P N X / vn X.length ∧ sumE K P N X / vn X.length ≤ estV K P N (0, N) := by
  have hc : 0 < vn X.length := by
    have := vn_nonneg X.length
    have := vn_ne hX
    grind
  rcases hA with h0 | hA
  · subst h0
    have e : ∀ r, estV K P 0 r = 0 := fun r => by
      unfold estV
      rw [show (((0 : Nat) : Int) : Rat) = 0 from rfl]
      grind
    rw [sumE_zero', e, e, Rat.div_def]
    constructor <;> grind
  · obtain ⟨a, b⟩ := sumE_in (K := K) (P := P) (N := N) (lo := estV K P N (0, 1)) (hi := estV K P N (0, N)) (X := X) fun x hx => by
      obtain ⟨-, h1, h2⟩ := hA x hx
      unfold estV
      exact ⟨Rat.mul_le_mul_of_nonneg_left (dGe_mono h (Nat.le_refl _) h1 (by omega)) (vn_nonneg N), Rat.mul_le_mul_of_nonneg_left (dGe_mono h h1 h2 (by omega)) (vn_nonneg N)⟩
    exact div_in hc a b
set_option maxHeartbeats 8000000 in
theorem amsAlone_fn {a b c : Int} {key0 : Nat} {L0 : List Bool} (hk0 : key0 < 18446744073709551616) (hL0 : L0.length ≤ 9223372036854775807) :
    Fn1 Tryd.prog 4 [.agg [.lit (.int .i64 a), .lit (.int .i64 b), .lit (.int .i64 c)], .lit (.int .u64 (key0 : Int)), .row 1 (L0.map be)] [] (.lit (.bool true)) [] := by
  obtain ⟨K, PI, C, hg, hoA, hPP, hC, hK, how⟩ := own22_fn (a := a) (b := b) (c := c)
  obtain ⟨P, rfl⟩ : ∃ p : Nat, PI = (p : Int) := ⟨PI.toNat, hPP⟩
  rw [Int.toNat_natCast] at hoA
  clear hPP
  have hfw := few9_fn (L := L0) (n := 600) hL0 (by decide)
  rw [show ((600 : Nat) : Int) = 600 from rfl] at hfw
  have hLl : (L0.take 600).length ≤ 600 := by rw [List.length_take]; omega
  generalize L0.take 600 = L at *
  obtain ⟨n, hn, hn15⟩ : ∃ n : Nat, b % 16 = (n : Int) ∧ n ≤ 15 := ⟨(b % 16).toNat, by omega, by omega⟩
  have m3 : bitK .and .i64 b 15 = b % 16 := bitK_mask (k := .i64) (j := 4) (a := b) (by decide)
  have hkey : (key0 : Int) % 2305843009213693951 = ((key0 % 2305843009213693951 : Nat) : Int) := rfl
  have hkb : key0 % 2305843009213693951 < 2305843009213693951 := Nat.mod_lt _ (by decide)
  generalize key0 % 2305843009213693951 = key at *
  have hC1 : 1 ≤ C := by have := hg.2; omega
  have hP8 : P ≤ 8 := by obtain ⟨h, _⟩ := hg; omega
  have hnew := anew_fn hg
  have htp := newT_fn (L := L) (by omega)
  have hzl : (List.replicate C ((0 : Nat), (0 : Nat))).length = C := List.length_replicate
  have hza : ∀ x ∈ List.replicate C ((0 : Nat), (0 : Nat)), x = (0, 0) := fun x hx => List.eq_of_mem_replicate hx
  generalize List.replicate C ((0 : Nat), (0 : Nat)) = z0 at *
  refine fn1N_of pl4 (by kernel_rfl) Tryd.call4 Tryd.func4 rfl (by kernel_rfl) rfl [.tmp 6] (by kernel_rfl) fun Q hQ => ?_
  refine runW ?_
  refine callV0 (awake22_fn) rfl rfl ?_
  refine runW ?_
  refine callV0 (hfw) rfl rfl ?_
  refine runW ?_
  refine callV0 (how) rfl rfl ?_
  refine runW ?_
  refine callW [] [] (hnew) ?_
  simp (maxSteps := 1000000) (disch := (first | omega | (simp only [lnA, List.length_map, List.length_range, true_and, and_true]; (try omega); done) | fail)) only [go_sem, hkey, Int.reduceEq, Int.reduceToNat, Nat.reduceAdd, Nat.reduceMul, Nat.reduceEqDiff, ↓reduceIte]
  refine callW [] [] (htp) ?_
  simp (maxSteps := 1000000) (disch := (first | omega | (simp only [lnA, List.length_map, List.length_range, true_and, and_true]; (try omega); done) | fail)) only [go_sem, m3, hn, Int.reduceEq, Int.reduceToNat, Nat.reduceAdd, Nat.reduceMul, Nat.reduceEqDiff, ↓reduceIte]
  refine loopW (X := Nat × List (Nat × Nat) × Nat) (st := fun u => ([(1, .lit (.int .u64 (key : Int))), (7, .ref 0 0 0 0), (8, .ref 1 0 0 0), (10, .ref 2 0 0 0), (11, .lit (.int .i64 (n : Int))), (42, .lit (.int .i64 (n : Int))), (43, .lit (.int .i64 (u.1 : Int)))],
      [some (.cells [.lit (.int .i64 K), .lit (.int .i64 (P : Int)), .lit (.int .i64 (C : Int))]), some (amC K (P : Int) (C : Int) u.2.1 u.1), some (tpC L u.2.2 false)]))
    (inv := fun u => u.1 ≤ n ∧ u.2.1.length = C ∧ u.2.2 ≤ L.length ∧ (∀ x ∈ u.2.1, x.1 < 2305843009213693951 ∧ x.2 ≤ u.1) ∧ ((u.1 = 0 ∧ ∀ x ∈ u.2.1, x = (0, 0)) ∨ (0 < u.1 ∧ ∀ x ∈ u.2.1, alone key u.1 x))) (m := fun u => n - u.1) (0, z0, 0) [some 1, some 2, some 3] ⟨Nat.zero_le _, hzl, Nat.zero_le _, fun x hx => by rw [hza x hx]; exact ⟨by decide, Nat.le_refl _⟩, .inl ⟨rfl, hza⟩⟩ ?_
  rintro ⟨i, X, p⟩ ⟨hi, hXl, hp, hR, hpost⟩
  dsimp only at hi hXl hp hR hpost ⊢
  have hRl : ∀ x ∈ X, x.2 ≤ i := fun x hx => (hR x hx).2
  by_cases hil : i < n
  · have hu := aupd_fn (K := K) (P := (P : Int)) (C := (C : Int)) (X := X) (N := i) (key := key) (p := p) (L := L) (by omega) (fun e => by rw [e] at hXl; simp at hXl; omega) hkb (by omega) (by omega) hp (fun x hx => by have := hRl x hx; omega)
    cases hup : updL L (i + 1) key X p with
    | some r =>
      obtain ⟨X', q⟩ := r
      obtain ⟨k1, k2, k3⟩ := updL_ok hp hup
      have hR' := updL_le (B := 2305843009213693951) hkb hR hup
      have hal := updL_alone (hpost.imp (fun h => h.1) (fun h => h.2)) hup
      rw [hup] at hu
      dsimp only at hu k1 k2 k3
      refine runW ?_
      refine callW [some 1, some 2] [] (hu) ?_
      refine runW ?_
      refine nextW (i + 1, X', q) [some 0, some 1, some 2] ⟨hil, by dsimp only; omega, k2, hR', .inr ⟨Nat.succ_pos _, hal⟩⟩ (by dsimp only; omega)
    | none =>
      rw [hup] at hu
      dsimp only at hu
      refine runW ?_
      refine callW [some 1, some 2] [] (hu) ?_
      have hal2 : (i = 0 ∧ ∀ x ∈ X, x = (0, 0)) ∨ (0 < i ∧ ∀ x ∈ X, alone key i x) := hpost
      have tot := atotal_fn (K := K) (P := (P : Int)) (C := (C : Int)) (X := X) (N := i)
      have dd := deadT_fn (L := L) (p := L.length) (d := true)
      have me := aMean_fn (N := i) hg hXl (by omega) (fun x hx => by have := hRl x hx; omega)
      have val1 := value22_fn (n := i) (r := 1) hg (by omega) (by omega)
      have val2 := value22_fn (n := i) (r := i) hg (by omega) (by omega)
      have hma := mean_alone (K := K) (P := P) (N := i) (key := key) (X := X) hoA (by omega) (by omega) (hal2.imp (fun h => h.1) (fun h => h.2))
      rw [hXl] at hma
      have rs1 := estV_RS (K := K) (P := P) (N := i) (x := (0, 1)) hP8 (by omega) (by decide)
      have rs2 := estV_RS (K := K) (P := P) (N := i) (x := (0, i)) hP8 (by omega) (by dsimp only; omega)
      have rsm := RS_div (k := 10 * C + 1) (l := 1) (x := sumE K P i X) (y := (((C : Nat) : Int) : Rat)) (by omega) (by have := sumE_RS (K := K) (P := P) (N := i) (X := X) hP8 (by omega) (fun x hx => by have := hRl x hx; omega); rw [hXl] at this; exact this) (RS_one (by omega) (by omega))
      change estV K P i (0, 1) ≤ sumE K P i X / (((C : Nat) : Int) : Rat) ∧ sumE K P i X / (((C : Nat) : Int) : Rat) ≤ estV K P i (0, i) at hma
      obtain ⟨c1, hc1, cm1⟩ := rcmpG_ge (x := sumE K P i X / (((C : Nat) : Int) : Rat)) (y := estV K P i (0, 1)) (rsm.mono (by omega)) (rs1.mono (by decide)) hma.1
      obtain ⟨c2, hc2, cm2⟩ := rcmpG_le (x := sumE K P i X / (((C : Nat) : Int) : Rat)) (y := estV K P i (0, i)) (rsm.mono (by omega)) (rs2.mono (by decide)) hma.2
      generalize sumE K P i X / (((C : Nat) : Int) : Rat) = mq at *
      generalize estV K P i (0, 1) = e1 at *
      generalize estV K P i (0, i) = e2 at *
      refine runW ?_
      refine loopW (X := Nat) (st := fun j => ([(1, .lit (.int .u64 (key : Int))), (7, .ref 0 0 0 0), (8, .ref 1 0 0 0), (10, .ref 2 0 0 0), (11, .lit (.int .i64 (n : Int))), (52, .lit (.int .i64 (C : Int))), (53, .lit (.int .i64 (j : Int)))],
          [some (.cells [.lit (.int .i64 K), .lit (.int .i64 (P : Int)), .lit (.int .i64 (C : Int))]), some (amC K (P : Int) (C : Int) X i), some (tpC L L.length true)]))
        (inv := fun j => j ≤ C) (m := fun j => C - j) 0 [some 0, some 1, some 2] (Nat.zero_le _) ?_
      intro j hj
      by_cases hjl : j < C
      · have hsamp := asamp_fn (K := K) (P := (P : Int)) (C := (C : Int)) (N := i) (List.getElem?_eq_getElem (show j < X.length by omega)) (by omega)
        rcases hal2 with ⟨hz, hal2⟩ | ⟨hz, hal2⟩
        · have hx0 := hal2 _ (List.getElem_mem (show j < X.length by omega))
          rw [hx0] at hsamp
          rw [show (((0, 0) : Nat × Nat).1 : Int) = 0 from rfl] at hsamp
          refine runW ?_
          refine callT (hsamp) ?_
          refine runW ?_
          refine callT (tot) ?_
          simp (maxSteps := 1000000) (disch := (first | omega | (simp only [lnA, List.length_map, List.length_range, true_and, and_true]; (try omega); done) | fail)) only [go_sem, eq_self, decide_true, Bool.and_self, Int.reduceEq, Int.reduceToNat, Nat.reduceAdd, Nat.reduceMul, Nat.reduceEqDiff, ↓reduceIte]
          refine nextW (j + 1) [some 0, some 1, some 2] (by omega) (by omega)
        · obtain ⟨a1, a2, a3⟩ := hal2 _ (List.getElem_mem (show j < X.length by omega))
          generalize X[j]'(show j < X.length by omega) = xx at *
          obtain ⟨x1, x2⟩ := xx
          dsimp only at a1 a2 a3 hsamp
          subst a1
          refine runW ?_
          refine callT (hsamp) ?_
          refine runW ?_
          refine callT (tot) ?_
          refine runW ?_
          refine callT (tot) ?_
          refine runW ?_
          refine nextW (j + 1) [some 0, some 1, some 2] (by omega) (by omega)
      · obtain rfl : j = C := by omega
        refine runW ?_
        refine callT (tot) ?_
        refine runW ?_
        refine callV0 (val1) rfl rfl ?_
        refine runW ?_
        refine callT (tot) ?_
        refine runW ?_
        refine callT (tot) ?_
        refine runW ?_
        refine callV0 (val2) rfl rfl ?_
        refine runW ?_
        refine callW [some 1] [] (me) ?_
        refine runW ?_
        repeat (first | (refine callT (tot) ?_) | (refine callT (dd) ?_) | (refine callV0 (cm1) rfl rfl ?_) | (refine callV0 (cm2) rfl rfl ?_) | (simp (maxSteps := 1000000) (disch := (first | omega | (simp only [lnA, List.length_map, List.length_range, true_and, and_true]; (try omega); done) | fail)) only [go_sem, eq_self, decide_true, Int.reduceEq, Int.reduceToNat, Nat.reduceAdd, Nat.reduceMul, Nat.reduceEqDiff, ↓reduceIte]))
        exact endW [] hQ
  · obtain rfl : i = n := by omega
    have hal2 : (i = 0 ∧ ∀ x ∈ X, x = (0, 0)) ∨ (0 < i ∧ ∀ x ∈ X, alone key i x) := hpost
    have tot := atotal_fn (K := K) (P := (P : Int)) (C := (C : Int)) (X := X) (N := i)
    have dd := deadT_fn (L := L) (p := p) (d := false)
    have me := aMean_fn (N := i) hg hXl (by omega) (fun x hx => by have := hRl x hx; omega)
    have val1 := value22_fn (n := i) (r := 1) hg (by omega) (by omega)
    have val2 := value22_fn (n := i) (r := i) hg (by omega) (by omega)
    have hma := mean_alone (K := K) (P := P) (N := i) (key := key) (X := X) hoA (by omega) (by omega) (hal2.imp (fun h => h.1) (fun h => h.2))
    rw [hXl] at hma
    have rs1 := estV_RS (K := K) (P := P) (N := i) (x := (0, 1)) hP8 (by omega) (by decide)
    have rs2 := estV_RS (K := K) (P := P) (N := i) (x := (0, i)) hP8 (by omega) (by dsimp only; omega)
    have rsm := RS_div (k := 10 * C + 1) (l := 1) (x := sumE K P i X) (y := (((C : Nat) : Int) : Rat)) (by omega) (by have := sumE_RS (K := K) (P := P) (N := i) (X := X) hP8 (by omega) (fun x hx => by have := hRl x hx; omega); rw [hXl] at this; exact this) (RS_one (by omega) (by omega))
    change estV K P i (0, 1) ≤ sumE K P i X / (((C : Nat) : Int) : Rat) ∧ sumE K P i X / (((C : Nat) : Int) : Rat) ≤ estV K P i (0, i) at hma
    obtain ⟨c1, hc1, cm1⟩ := rcmpG_ge (x := sumE K P i X / (((C : Nat) : Int) : Rat)) (y := estV K P i (0, 1)) (rsm.mono (by omega)) (rs1.mono (by decide)) hma.1
    obtain ⟨c2, hc2, cm2⟩ := rcmpG_le (x := sumE K P i X / (((C : Nat) : Int) : Rat)) (y := estV K P i (0, i)) (rsm.mono (by omega)) (rs2.mono (by decide)) hma.2
    generalize sumE K P i X / (((C : Nat) : Int) : Rat) = mq at *
    generalize estV K P i (0, 1) = e1 at *
    generalize estV K P i (0, i) = e2 at *
    refine runW ?_
    refine loopW (X := Nat) (st := fun j => ([(1, .lit (.int .u64 (key : Int))), (7, .ref 0 0 0 0), (8, .ref 1 0 0 0), (10, .ref 2 0 0 0), (11, .lit (.int .i64 (i : Int))), (52, .lit (.int .i64 (C : Int))), (53, .lit (.int .i64 (j : Int)))],
        [some (.cells [.lit (.int .i64 K), .lit (.int .i64 (P : Int)), .lit (.int .i64 (C : Int))]), some (amC K (P : Int) (C : Int) X i), some (tpC L p false)]))
      (inv := fun j => j ≤ C) (m := fun j => C - j) 0 [some 0, some 1, some 2] (Nat.zero_le _) ?_
    intro j hj
    by_cases hjl : j < C
    · have hsamp := asamp_fn (K := K) (P := (P : Int)) (C := (C : Int)) (N := i) (List.getElem?_eq_getElem (show j < X.length by omega)) (by omega)
      rcases hal2 with ⟨hz, hal2⟩ | ⟨hz, hal2⟩
      · have hx0 := hal2 _ (List.getElem_mem (show j < X.length by omega))
        rw [hx0] at hsamp
        rw [show (((0, 0) : Nat × Nat).1 : Int) = 0 from rfl] at hsamp
        refine runW ?_
        refine callT (hsamp) ?_
        refine runW ?_
        refine callT (tot) ?_
        simp (maxSteps := 1000000) (disch := (first | omega | (simp only [lnA, List.length_map, List.length_range, true_and, and_true]; (try omega); done) | fail)) only [go_sem, eq_self, decide_true, Bool.and_self, Int.reduceEq, Int.reduceToNat, Nat.reduceAdd, Nat.reduceMul, Nat.reduceEqDiff, ↓reduceIte]
        refine nextW (j + 1) [some 0, some 1, some 2] (by omega) (by omega)
      · obtain ⟨a1, a2, a3⟩ := hal2 _ (List.getElem_mem (show j < X.length by omega))
        generalize X[j]'(show j < X.length by omega) = xx at *
        obtain ⟨x1, x2⟩ := xx
        dsimp only at a1 a2 a3 hsamp
        subst a1
        refine runW ?_
        refine callT (hsamp) ?_
        refine runW ?_
        refine callT (tot) ?_
        refine runW ?_
        refine callT (tot) ?_
        refine runW ?_
        refine nextW (j + 1) [some 0, some 1, some 2] (by omega) (by omega)
    · obtain rfl : j = C := by omega
      refine runW ?_
      refine callT (tot) ?_
      refine runW ?_
      refine callV0 (val1) rfl rfl ?_
      refine runW ?_
      refine callT (tot) ?_
      refine runW ?_
      refine callT (tot) ?_
      refine runW ?_
      refine callV0 (val2) rfl rfl ?_
      refine runW ?_
      refine callW [some 1] [] (me) ?_
      refine runW ?_
      repeat (first | (refine callT (tot) ?_) | (refine callT (dd) ?_) | (refine callV0 (cm1) rfl rfl ?_) | (refine callV0 (cm2) rfl rfl ?_) | (simp (maxSteps := 1000000) (disch := (first | omega | (simp only [lnA, List.length_map, List.length_range, true_and, and_true]; (try omega); done) | fail)) only [go_sem, eq_self, decide_true, Int.reduceEq, Int.reduceToNat, Nat.reduceAdd, Nat.reduceMul, Nat.reduceEqDiff, ↓reduceIte]))
      exact endW [] hQ
end Go.Proofs.YtdmdmdoeahhkiaaDoor
