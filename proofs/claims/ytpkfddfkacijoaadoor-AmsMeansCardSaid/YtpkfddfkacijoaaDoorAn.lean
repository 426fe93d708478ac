import Derived.Test.YtpkfddfkacijoaaDoorAm
namespace Go.Proofs.YtpkfddfkacijoaaDoor
open Go.Eng Go.Vx
set_option linter.unusedSimpArgs false
set_option linter.unusedVariables false
set_option maxRecDepth 100000
theorem subA_nil {α : Type} (t : DT α) : t.sub [] = t := by cases t <;> rfl
theorem gE_RS {K : Int} {P r : Nat} (hP : P ≤ 8) (hr : r ≤ 1048576) : RS 8 (gE K P r) := by
  have i1 := RS_int (z := ((gN K P r : Nat) : Int)) (k := 3) (by rw [Int.natAbs_natCast]; exact gN_wg hP hr) (by decide)
  unfold gE
  split
  · exact (RS_div (by decide) i1 (RS_one (by decide) (by decide))).mono (by decide)
  · exact i1.mono (by decide)
theorem sumG_RS {K : Int} {P : Nat} {φ : Nat → Nat} (hP : P ≤ 8) (h : ∀ κ, φ κ ≤ 4) : ∀ {u : Nat}, RS (1 + 9 * u) (sumN u (fun κ => gE K P (φ κ)))
  | 0 => RS_one (a := 0) (by decide) (by decide)
  | u + 1 => (RS_add (sumG_RS hP h (u := u)) (gE_RS (r := φ u) hP (by have := h u; omega))).mono (by omega)
set_option maxHeartbeats 16000000 in
theorem amsMeans_fn {a b c : Int} {W : List Nat} (hW : W.length ≤ 9223372036854775807) (hk : ∀ k ∈ W, k < 18446744073709551616) :
    Fn1 Tryd.prog 3 [.agg [.lit (.int .i64 a), .lit (.int .i64 b), .lit (.int .i64 c)], .row 1 ((nl W).map (ie .u64))] [] (.lit (.bool true)) [] := by
  obtain ⟨K, PI, C, hg, hoA, hPP, hC, hK, how⟩ := own22_fn (a := a) (b := b) (c := c)
  obtain ⟨P, rfl⟩ : ∃ p : Nat, PI = (p : Int) := ⟨PI.toNat, hPP⟩
  rw [Int.toNat_natCast] at hoA
  clear hPP
  have hg1 : goodA K P 1 := ⟨hg.1, by decide, by decide⟩
  have hP8 : P ≤ 8 := by obtain ⟨h, _⟩ := hg; omega
  have hlW := nl_len W
  obtain ⟨n, hn, hnW, hnm⟩ : ∃ n : Nat, n ≤ 4 ∧ n ≤ W.length ∧ n = min W.length 4 := ⟨min W.length 4, by omega, by omega, rfl⟩
  have hmn : min ((nl W).length : Int) 4 = (n : Int) := by omega
  have hest : ∀ x : Nat × Nat, x.2 ≤ 4 → RS 9 (estV K P n x) := fun x hx => (estV_RS hP8 (by omega) (by omega)).mono (by decide)
  have hwk := walkA_fn (W := W) hg1 hn hnW hW hk hest 12 1 [] (0, 0) rfl (RS_one (a := 0) (by decide) (by decide)) (by decide) (by decide)
  rw [subA_nil] at hwk
  have hqt : qTr (trA K P n W) 12 (0, 0) = (sumQr (trA K P n W) 12, opQr (trA K P n W) 12) := Prod.ext (by show (0 : Rat) + _ = _; grind) (Nat.zero_add _)
  rw [hqt] at hwk
  have hrs1 : RS 49151 (sumQr (trA K P n W) 12) := sumQr_RS (B := 9) (alf_run fun L a p hL hr => by
    obtain ⟨y, rfl, hy⟩ := play_leaf (fin := fun x => estV K P n x) (ks := ksA W n) (N := 0) (x := (0, 0)) (L := L) (by omega) (Nat.zero_le _) (Nat.le_refl _) hr
    exact hest y (by rw [ksA_len hnW] at hy; omega)) (by decide)
  have hop4 : opQr (trA K P n W) 12 ≤ 4096 := opQr_le
  have hme := meansA (W := W) hoA hn hnW
  have hop : n ≤ 2 → opQr (trA K P n W) 12 = 0 := fun h => opA_zero (by rw [ksA_len hnW]; exact h)
  have of0 : Fn1 _ _ [.lit (.int .i64 0)] [] (RV 0) [] := rof_fn (n := 0) (by omega) (by omega)
  refine fn1N_of pl3 (by kernel_rfl) Tryd.call3 Tryd.func3 rfl (by kernel_rfl) rfl [.tmp 4] (by kernel_rfl) fun Q hQ => ?_
  refine runW ?_
  refine callV0 (awake22_fn) rfl rfl ?_
  refine runW ?_
  refine callV0 (how) rfl rfl ?_
  simp (maxSteps := 1000000) (disch := (first | omega | (simp only [lnA, List.length_map, List.length_range, true_and, and_true]; (try omega); done) | fail)) only [go_sem, hmn, Int.reduceEq, Int.reduceToNat, Nat.reduceAdd, Nat.reduceMul, Nat.reduceEqDiff, ↓reduceIte]
  refine callV0 (of0) rfl rfl ?_
  refine runW ?_
  refine callW [some 2, some 3, some 1, some 6, some 4, some 5] [] (hwk) ?_
  refine runW ?_
  refine callV0 (of0) rfl rfl ?_
  clear hqt
  generalize sumQr (trA K P n W) 12 = r1 at *
  generalize opQr (trA K P n W) 12 = r2 at *
  refine runW ?_
  refine loopW (X := Nat × Rat) (st := fun u => ([(31, .lit (.int .u64 (u.1 : Int))), (10, .ref 5 0 0 0), (3, .ref 0 0 0 0), (5, .ref 1 0 0 0), (6, .ref 2 0 0 0), (7, .ref 3 0 0 0), (8, .ref 4 0 0 0)],
      [some (.cells [.row 1 ((nl W).map (ie .u64))]), some (.cells [.lit (.int .i64 K), .lit (.int .i64 (P : Int)), .lit (.int .i64 1)]), some (.cells [.lit (.int .i64 (n : Int))]), some (.cells (rqC r1)), some (.cells [.lit (.int .i64 (r2 : Int))]), some (.cells (rqC u.2))]))
    (inv := fun u => u.1 ≤ 3 ∧ u.2 = sumN u.1 (fun κ => gE K P ((ksA W n).count κ))) (m := fun u => 3 - u.1) (0, 0) [some 1, some 2, some 3, some 4, some 5, some 7] ⟨Nat.zero_le _, rfl⟩ ?_
  rintro ⟨u, w⟩ ⟨hu, hw⟩
  dsimp only at hu hw ⊢
  by_cases hul : u < 3
  · have hlt : (List.take n (nl W)).length = n := by rw [List.length_take]; omega
    simp (maxSteps := 1000000) (disch := (first | omega | (simp only [lnA, List.length_map, List.length_range, true_and, and_true]; (try omega); done) | fail)) only [go_sem, hlt, Int.reduceEq, Int.reduceToNat, Nat.reduceAdd, Nat.reduceMul, Nat.reduceEqDiff, ↓reduceIte]
    refine loopW (X := Nat × Nat) (st := fun v => ([(38, .lit (.int .i64 (v.1 : Int))), (12, .lit (.int .i64 (v.2 : Int))), (37, .lit (.int .i64 (n : Int))), (36, .row 1 ((List.take n (nl W)).map (ie .u64))), (11, .lit (.int .u64 (u : Int))), (31, .lit (.int .u64 (u : Int))), (10, .ref 5 0 0 0), (3, .ref 0 0 0 0), (5, .ref 1 0 0 0), (6, .ref 2 0 0 0), (7, .ref 3 0 0 0), (8, .ref 4 0 0 0)],
        [some (.cells [.row 1 ((nl W).map (ie .u64))]), some (.cells [.lit (.int .i64 K), .lit (.int .i64 (P : Int)), .lit (.int .i64 1)]), some (.cells [.lit (.int .i64 (n : Int))]), some (.cells (rqC r1)), some (.cells [.lit (.int .i64 (r2 : Int))]), some (.cells (rqC w))]))
      (inv := fun v => v.1 ≤ n ∧ v.2 = (ksA W v.1).count u) (m := fun v => n - v.1) (0, 0) [some 0, some 1, some 2, some 3, some 4, some 5] ⟨Nat.zero_le _, rfl⟩ ?_
    rintro ⟨i, m⟩ ⟨hi, hm⟩
    dsimp only at hi hm ⊢
    by_cases hil : i < n
    · have hg0 : (List.take n (nl W)).getD i 0 = ((W.getD i 0 : Nat) : Int) := by
        rw [← nl_get W i]; simp [List.getD_eq_getElem?_getD, List.getElem?_take, hil]
      have ht : ((W.getD i 0 : Nat) : Int).tmod 3 = ((W.getD i 0 % 3 : Nat) : Int) := rfl
      have hk1 : ksA W (i + 1) = ksA W i ++ [W.getD i 0 % 3] := by
        unfold ksA
        rw [List.take_succ_eq_append_getElem (by omega), List.map_append, List.getD_eq_getElem?_getD, List.getElem?_eq_getElem (by omega)]
        rfl
      have hmi : m ≤ i := by
        rw [hm]
        exact Nat.le_trans List.count_le_length (by rw [ksA_len (by omega)]; omega)
      generalize W.getD i 0 = x at *
      by_cases hc : x % 3 = u
      · have hd : (((x % 3 : Nat) : Int) = (u : Int)) = True := by simp only [hc]
        simp (maxSteps := 1000000) (disch := (first | omega | (simp only [lnA, List.length_map, List.length_range, true_and, and_true]; (try omega); done) | fail)) only [go_sem, hlt, hg0, ht, hd, decide_true, Int.reduceEq, Int.reduceToNat, Nat.reduceAdd, Nat.reduceMul, Nat.reduceEqDiff, ↓reduceIte]
        refine nextW (i + 1, m + 1) [some 0, some 1, some 2, some 3, some 4, some 5] ⟨hil, by rw [hk1, List.count_append, ← hm, hc]; simp⟩ (by dsimp only; omega)
      · have hd : (((x % 3 : Nat) : Int) = (u : Int)) = False := by apply eq_false; omega
        simp (maxSteps := 1000000) (disch := (first | omega | (simp only [lnA, List.length_map, List.length_range, true_and, and_true]; (try omega); done) | fail)) only [go_sem, hlt, hg0, ht, hd, decide_false, Int.reduceEq, Int.reduceToNat, Nat.reduceAdd, Nat.reduceMul, Nat.reduceEqDiff, ↓reduceIte]
        refine nextW (i + 1, m) [some 0, some 1, some 2, some 3, some 4, some 5] ⟨hil, by rw [hk1, List.count_append, ← hm]; simp [hc]⟩ (by dsimp only; omega)
    · obtain rfl : i = n := by omega
      have hm4 : m ≤ 4 := by
        rw [hm]
        exact Nat.le_trans List.count_le_length (by rw [ksA_len hnW]; omega)
      have g1 := ag_fn (r := (m : Int)) (N := m) hg1 (by omega)
      have n1 := rnat_fn (n := gN K P m) (Nat.le_trans (gN_wg hP8 (by omega)) (by decide))
      have o2 := rof_fn (n := 268435456) (by decide) (by decide)
      have hwR : RS 30 w := by rw [hw]; exact (sumG_RS hP8 (fun κ => Nat.le_trans List.count_le_length (by rw [ksA_len hnW]; omega))).mono (by omega)
      have hgR := gE_RS (K := K) (r := m) hP8 (by omega)
      have ad := radd_fn (x := w) (y := gE K P m) (hwR.mono (by decide)) (hgR.mono (by decide))
      have hw1 : w + gE K P m = sumN (u + 1) (fun κ => gE K P ((ksA W i).count κ)) := by rw [hw, hm]; rfl
      have i1 := RS_int (z := ((gN K P m : Nat) : Int)) (k := 3) (by rw [Int.natAbs_natCast]; exact gN_wg hP8 (by omega)) (by decide)
      have dv := rdiv_fn (x := (((gN K P m : Nat) : Int) : Rat)) (y := ((268435456 : Int) : Rat)) (by decide) (i1.mono (by decide)) ((RS_one (by decide) (by decide)).mono (by decide))
      clear hme hop hwk hm
      by_cases hK2 : K = 2
      · have e : gE K P m = (((gN K P m : Nat) : Int) : Rat) / ((268435456 : Int) : Rat) := if_pos hK2
        rw [← e] at dv
        generalize w + gE K P m = w' at *
        generalize gE K P m = ge at *
        generalize (((gN K P m : Nat) : Int) : Rat) = y1 at *
        generalize ((268435456 : Int) : Rat) = y2 at *
        generalize gN K P m = gn at *
        repeat (first | (refine callV0 (g1) rfl rfl ?_) | (refine callV0 (n1) rfl rfl ?_) | (refine callV0 (o2) rfl rfl ?_) | (refine callV0 (dv) rfl rfl ?_) | (refine callV0 (ad) rfl rfl ?_) | (simp (maxSteps := 1000000) (disch := (first | omega | (simp only [lnA, List.length_map, List.length_range, true_and, and_true]; (try omega); done) | fail)) only [go_sem, hlt, decide_eq_true hK2, Int.reduceEq, Int.reduceToNat, Nat.reduceAdd, Nat.reduceMul, Nat.reduceEqDiff, ↓reduceIte]))
        refine nextW (u + 1, w') [some 0, some 1, some 2, some 3, some 4, some 5] ⟨hul, hw1⟩ (by dsimp only; omega)
      · have e : gE K P m = (((gN K P m : Nat) : Int) : Rat) := if_neg hK2
        rw [← e] at n1
        generalize w + gE K P m = w' at *
        generalize gE K P m = ge at *
        generalize gN K P m = gn at *
        repeat (first | (refine callV0 (g1) rfl rfl ?_) | (refine callV0 (n1) rfl rfl ?_) | (refine callV0 (ad) rfl rfl ?_) | (simp (maxSteps := 1000000) (disch := (first | omega | (simp only [lnA, List.length_map, List.length_range, true_and, and_true]; (try omega); done) | fail)) only [go_sem, hlt, decide_eq_false hK2, Int.reduceEq, Int.reduceToNat, Nat.reduceAdd, Nat.reduceMul, Nat.reduceEqDiff, ↓reduceIte]))
        refine nextW (u + 1, w') [some 0, some 1, some 2, some 3, some 4, some 5] ⟨hul, hw1⟩ (by dsimp only; omega)
  · obtain rfl : u = 3 := by omega
    have es : ∀ φ : Nat → Rat, sumN 3 φ = φ 0 + φ 1 + φ 2 := fun φ => by
      show 0 + φ 0 + φ 1 + φ 2 = _
      grind
    have hwR : RS 28 w := by rw [hw]; exact sumG_RS (u := 3) hP8 (fun κ => Nat.le_trans List.count_le_length (by rw [ksA_len hnW]; omega))
    rw [es] at hw
    try dsimp only at hw
    rw [← hw] at hme
    have hmx : max (n : Int) 1 = ((max n 1 : Nat) : Int) := by omega
    have hN4 : max n 1 ≤ 4 := by omega
    have val := value22_fn (n := max n 1) (r := max n 1) hg1 (by omega) (by omega)
    have rsv := estV_RS (K := K) (P := P) (N := max n 1) (x := (0, max n 1)) hP8 (by omega) (by dsimp only; omega)
    have o1 : Fn1 _ _ [.lit (.int .i64 4096)] [] (RV (vn 4096)) [] := rof_fn (n := ((4096 : Nat) : Int)) (by decide) (by decide)
    have o2 : Fn1 _ _ [.lit (.int .i64 ((r2 : Nat) : Int))] [] (RV (vn r2)) [] := rof_fn (n := ((r2 : Nat) : Int)) (by omega) (by omega)
    have q1 : RS 1 (vn 4096) := RS_one (a := ((4096 : Nat) : Int)) (by decide) (by decide)
    have q2 : RS 1 (vn r2) := RS_one (a := ((r2 : Nat) : Int)) (by omega) (by omega)
    have m1 := rmul_fn (x := w) (y := vn 4096) (hwR.mono (by decide)) (q1.mono (by decide))
    have m2 := rmul_fn (x := vn r2) (y := estV K P (max n 1) (0, max n 1)) (q2.mono (by decide)) (rsv.mono (by decide))
    have rm1 := RS_mul hwR q1
    have rm2 := RS_mul q2 rsv
    have ecm : vn r2 * estV K P (max n 1) (0, max n 1) = estV K P (max n 1) (0, max n 1) * vn r2 := Rat.mul_comm _ _
    rw [← ecm] at hme
    have ad := radd_fn (x := r1) (y := vn r2 * estV K P (max n 1) (0, max n 1)) (hrs1.mono (by decide)) (rm2.mono (by decide))
    have rad := RS_add hrs1 rm2
    obtain ⟨c1, hc1, cm1⟩ := rcmpG_le (x := r1) (y := w * vn 4096) (hrs1.mono (by decide)) (rm1.mono (by decide)) hme.1
    obtain ⟨c2, hc2, cm2⟩ := rcmpG_le (x := w * vn 4096) (y := r1 + vn r2 * estV K P (max n 1) (0, max n 1)) (rm1.mono (by decide)) (rad.mono (by decide)) hme.2
    have hopI : n ≤ 2 → ((r2 : Nat) : Int) = 0 := fun h => by have := hop h; omega
    clear hme hop hwk hw rad rm1 rm2 ecm hest hk
    generalize r1 + vn r2 * estV K P (max n 1) (0, max n 1) = y1 at *
    generalize vn r2 * estV K P (max n 1) (0, max n 1) = y2 at *
    generalize estV K P (max n 1) (0, max n 1) = y3 at *
    generalize w * vn 4096 = y4 at *
    generalize vn 4096 = y5 at *
    generalize vn r2 = y6 at *
    generalize max n 1 = N at *
    by_cases hn2 : n ≤ 2
    · have h0 := hopI hn2
      repeat (first | (refine callV0 (o1) rfl rfl ?_) | (refine callV0 (m1) rfl rfl ?_) | (refine callV0 (o2) rfl rfl ?_) | (refine callV0 (val) rfl rfl ?_) | (refine callV0 (m2) rfl rfl ?_) | (refine callV0 (ad) rfl rfl ?_) | (refine callV0 (cm1) rfl rfl ?_) | (refine callV0 (cm2) rfl rfl ?_) | (simp (maxSteps := 1000000) (disch := (first | omega | (simp only [lnA, List.length_map, List.length_range, true_and, and_true]; (try omega); done) | fail)) only [go_sem, hmx, decide_eq_true h0, Int.reduceEq, Int.reduceToNat, Nat.reduceAdd, Nat.reduceMul, Nat.reduceEqDiff, ↓reduceIte]))
      exact endW [] hQ
    · repeat (first | (refine callV0 (o1) rfl rfl ?_) | (refine callV0 (m1) rfl rfl ?_) | (refine callV0 (o2) rfl rfl ?_) | (refine callV0 (val) rfl rfl ?_) | (refine callV0 (m2) rfl rfl ?_) | (refine callV0 (ad) rfl rfl ?_) | (refine callV0 (cm1) rfl rfl ?_) | (refine callV0 (cm2) rfl rfl ?_) | (simp (maxSteps := 1000000) (disch := (first | omega | (simp only [lnA, List.length_map, List.length_range, true_and, and_true]; (try omega); done) | fail)) only [go_sem, hmx, Int.reduceEq, Int.reduceToNat, Nat.reduceAdd, Nat.reduceMul, Nat.reduceEqDiff, ↓reduceIte]))
      exact endW [] hQ
end Go.Proofs.YtpkfddfkacijoaaDoor
