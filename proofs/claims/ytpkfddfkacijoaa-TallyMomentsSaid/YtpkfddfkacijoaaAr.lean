import Derived.Test.YtpkfddfkacijoaaAq
import Derived.Test.YtpkfddfkacijoaaQd
namespace Go.Proofs.Ytpkfddfkacijoaa
open Go.Eng Go.Vx
set_option linter.unusedSimpArgs false
set_option linter.unusedVariables false
set_option maxRecDepth 100000
theorem vn_pow (a : Nat) : ∀ k, vn (a ^ k) = vn a ^ k
  | 0 => by rw [Nat.pow_zero, Rat.pow_zero]; rfl
  | k + 1 => by rw [Nat.pow_succ, Rat.pow_succ, vn_mul, vn_pow a k]
theorem rcmpM_le {x y : Rat} (hx : RS 400000 x) (hy : RS 400000 y) (h : x ≤ y) : ∃ c : Int, c ≤ 0 ∧ Fn1 Try.prog 16 [RV x, RV y] [] (.lit (.int .i64 c)) [] := by
  refine ⟨cmpQ x y, ?_, rcmp_fn hx hy⟩
  unfold cmpQ
  split
  · decide
  · rw [if_neg (Rat.not_lt.2 h)]
    decide
theorem subB_nil {α : Type} (t : DT α) : t.sub [] = t := by cases t <;> rfl
set_option maxHeartbeats 16000000 in
theorem tallyMoments_fn {pw : Int} {W : List Nat} (hW : W.length ≤ 9223372036854775807) (hk : ∀ k ∈ W, k < 18446744073709551616) :
    Fn1 Try.prog 3 [.row 1 ((nl W).map (ie .u64)), .lit (.int .i64 pw)] [] (.lit (.bool true)) [] := by
  obtain ⟨P, hP, hP1, hP4⟩ : ∃ P : Nat, 1 + pw % 4 = (P : Int) ∧ 1 ≤ P ∧ P ≤ 4 := ⟨(1 + pw % 4).toNat, by omega, by omega, by omega⟩
  have m2 : bitK .and .i64 pw 3 = pw % 4 := bitK_mask (k := .i64) (j := 2) (a := pw) (by decide)
  have hg1 : goodA 1 P 1 := ⟨.inl ⟨rfl, by omega, by omega⟩, by decide, by decide⟩
  have hP8 : P ≤ 8 := by omega
  have hlW := nl_len W
  obtain ⟨n, hn, hnW, hnm⟩ : ∃ n : Nat, n ≤ 3 ∧ n ≤ W.length ∧ n = min W.length 3 := ⟨min W.length 3, by omega, by omega, rfl⟩
  have hmn : min ((nl W).length : Int) 3 = (n : Int) := by omega
  have hest : ∀ x : Nat × Nat, x.2 ≤ 4 → RS 9 (estV 1 P n x) := fun x hx => (estV_RS hP8 (by omega) (by omega)).mono (by decide)
  have hwk := walkB_fn (W := W) hg1 hn hnW hW hk hest 12 1 [] (0, 0) rfl (RS_one (a := 0) (by decide) (by decide)) (by decide) (by decide)
  rw [subB_nil] at hwk
  have hqt : qTr (trB P n W) 12 (0, 0) = (sumQr (trB P n W) 12, opQr (trB P n W) 12) := Prod.ext (by show (0 : Rat) + _ = _; grind) (Nat.zero_add _)
  rw [hqt] at hwk
  have hrs1 : RS 49151 (sumQr (trB P n W) 12) := sumQr_RS (B := 9) (alf_run fun L a p hL hr => by
    obtain ⟨y, rfl, hy⟩ := play_leaf (fin := fun x => estV 1 P n x) (ks := ksB W n) (N := 0) (x := (0, 0)) (L := L) (by omega) (Nat.zero_le _) (Nat.le_refl _) hr
    exact hest y (by rw [ksB_len hnW] at hy; omega)) (by decide)
  have hme := meansB (W := W) ⟨hP1, hP4⟩ hn hnW
  have hop : opQr (trB P n W) 12 < 4096 := opB_lt (by rw [ksB_len hnW]; exact hn)
  have of0 : Fn1 _ _ [.lit (.int .i64 0)] [] (RV 0) [] := rof_fn (n := 0) (by omega) (by omega)
  refine fn1N_of pl3 (by kernel_rfl) Try.call3 Try.func3 rfl (by kernel_rfl) rfl [.tmp 4] (by kernel_rfl) fun Q hQ => ?_
  simp (maxSteps := 1000000) (disch := (first | omega | (simp only [lnA, List.length_map, List.length_range, true_and, and_true]; (try omega); done) | fail)) only [go_sem, hmn, m2, hP, Int.reduceEq, Int.reduceToNat, Nat.reduceAdd, Nat.reduceMul, Nat.reduceEqDiff, ↓reduceIte]
  refine callV0 (of0) rfl rfl ?_
  refine runW ?_
  refine callW [some 1, some 4, some 2, some 0, some 5, some 3] [] (hwk) ?_
  clear hqt
  generalize sumQr (trB P n W) 12 = r1 at *
  generalize opQr (trB P n W) 12 = r2 at *
  have hlt : (List.take n (nl W)).length = n := by rw [List.length_take]; omega
  have hne : decide (((r2 : Nat) : Int) = 4096) = false := decide_eq_false (by omega)
  simp (maxSteps := 1000000) (disch := (first | omega | (simp only [lnA, List.length_map, List.length_range, true_and, and_true]; (try omega); done) | fail)) only [go_sem, hlt, hne, Int.reduceEq, Int.reduceToNat, Nat.reduceAdd, Nat.reduceMul, Nat.reduceEqDiff, ↓reduceIte]
  refine loopW (X := Nat × Nat) (st := fun v => ([(34, .lit (.int .i64 (v.1 : Int))), (10, .lit (.int .i64 (v.2 : Int))), (33, .lit (.int .i64 (n : Int))), (32, .row 1 ((List.take n (nl W)).map (ie .u64))), (5, .ref 0 0 0 0), (6, .ref 1 0 0 0), (7, .ref 2 0 0 0), (8, .ref 3 0 0 0)],
      [some (.cells [.lit (.int .i64 1), .lit (.int .i64 (P : Int)), .lit (.int .i64 1)]), some (.cells [.lit (.int .i64 (n : Int))]), some (.cells (rqC r1)), some (.cells [.lit (.int .i64 (r2 : Int))])]))
    (inv := fun v => v.1 ≤ n ∧ v.2 = (ksB W v.1).count 1) (m := fun v => n - v.1) (0, 0) [some 1, some 2, some 3, some 4] ⟨Nat.zero_le _, rfl⟩ ?_
  rintro ⟨i, m⟩ ⟨hi, hm⟩
  dsimp only at hi hm ⊢
  by_cases hil : i < n
  · have hg0 : (List.take n (nl W)).getD i 0 = ((W.getD i 0 : Nat) : Int) := by
      rw [← nl_get W i]; simp [List.getD_eq_getElem?_getD, List.getElem?_take, hil]
    have hk3 : ((W.getD i 0 : Nat) : Int) % 2 = ((W.getD i 0 % 2 : Nat) : Int) := rfl
    have hk1 : ksB W (i + 1) = ksB W i ++ [W.getD i 0 % 2] := by
      unfold ksB
      rw [List.take_succ_eq_append_getElem (by omega), List.map_append, List.getD_eq_getElem?_getD, List.getElem?_eq_getElem (by omega)]
      rfl
    have hx2 : W.getD i 0 % 2 < 2 := Nat.mod_lt _ (by decide)
    have hmi : m ≤ i := by
      rw [hm]
      exact Nat.le_trans List.count_le_length (by rw [ksB_len (by omega)]; omega)
    generalize W.getD i 0 = x at *
    have hc1 : (ksB W (i + 1)).count 1 = m + x % 2 := by
      rw [hk1, List.count_append, ← hm]
      have : x % 2 = 0 ∨ x % 2 = 1 := by omega
      rcases this with h | h <;> rw [h] <;> rfl
    generalize x % 2 = y at *
    simp (maxSteps := 1000000) (disch := (first | omega | (simp only [lnA, List.length_map, List.length_range, true_and, and_true]; (try omega); done) | fail)) only [go_sem, hlt, hg0, hk3, Int.reduceEq, Int.reduceToNat, Nat.reduceAdd, Nat.reduceMul, Nat.reduceEqDiff, ↓reduceIte]
    refine nextW (i + 1, m + y) [some 0, some 1, some 2, some 3] ⟨hil, hc1.symm⟩ (by dsimp only; omega)
  · obtain rfl : i = n := by omega
    have hmi : m ≤ i := by
      rw [hm]
      exact Nat.le_trans List.count_le_length (by rw [ksB_len (by omega)]; omega)
    rw [← hm] at hme
    have eg : ∀ r, gN 1 P r = r ^ P := fun r => if_neg (by decide)
    have g1 := ag_fn (r := (m : Int)) (N := m) hg1 (by omega)
    have g2 := ag_fn (r := (i : Int) - (m : Int)) (N := i - m) hg1 (by omega)
    have w1 := gN_wg (K := 1) (N := m) hP8 (by omega)
    have w2 := gN_wg (K := 1) (N := i - m) hP8 (by omega)
    rw [eg] at g1 g2 w1 w2
    have n1 : Fn1 _ _ [NV (m ^ P)] [] (RV (vn (m ^ P))) [] := rnat_fn (n := m ^ P) (Nat.le_trans w1 (by decide))
    have n2 : Fn1 _ _ [NV ((i - m) ^ P)] [] (RV (vn ((i - m) ^ P))) [] := rnat_fn (n := (i - m) ^ P) (Nat.le_trans w2 (by decide))
    have s1 : RS 3 (vn (m ^ P)) := RS_int (z := ((m ^ P : Nat) : Int)) (k := 3) (by rw [Int.natAbs_natCast]; exact w1) (by decide)
    have s2 : RS 3 (vn ((i - m) ^ P)) := RS_int (z := (((i - m) ^ P : Nat) : Int)) (k := 3) (by rw [Int.natAbs_natCast]; exact w2) (by decide)
    have ad0 := radd_fn (s1.mono (by decide)) (s2.mono (by decide))
    have s3 := RS_add s1 s2
    have hmx : max (i : Int) 1 = ((max i 1 : Nat) : Int) := by omega
    have o0 : Fn1 _ _ [.lit (.int .i64 ((max i 1 : Nat) : Int))] [] (RV (vn (max i 1))) [] := rof_fn (n := ((max i 1 : Nat) : Int)) (by omega) (by omega)
    have q0 : RS 1 (vn (max i 1)) := RS_one (a := ((max i 1 : Nat) : Int)) (by omega) (by omega)
    obtain ⟨tp, ep, pw1, -, pw2, rtp⟩ := rpow_ex (x := vn (max i 1)) (q0.mono (by decide)) (n := 1 + (P : Int)) (by omega) (by omega)
    obtain ⟨rfl, htp⟩ := pw2 (P + 1) (by omega) (by omega)
    rw [vn_pow (max i 1), ← htp] at hme
    have o1 : Fn1 _ _ [.lit (.int .i64 4096)] [] (RV (vn 4096)) [] := rof_fn (n := ((4096 : Nat) : Int)) (by decide) (by decide)
    have o2 : Fn1 _ _ [.lit (.int .i64 ((r2 : Nat) : Int))] [] (RV (vn r2)) [] := rof_fn (n := ((r2 : Nat) : Int)) (by omega) (by omega)
    have q1 : RS 1 (vn 4096) := RS_one (a := ((4096 : Nat) : Int)) (by decide) (by decide)
    have q2 : RS 1 (vn r2) := RS_one (a := ((r2 : Nat) : Int)) (by omega) (by omega)
    have m1 := rmul_fn (x := vn (m ^ P) + vn ((i - m) ^ P)) (y := vn 4096) (s3.mono (by decide)) (q1.mono (by decide))
    have m3 := rmul_fn (x := tp) (y := vn r2) (rtp.mono (by decide)) (q2.mono (by decide))
    have rm1 := RS_mul s3 q1
    have rm2 := RS_mul rtp q2
    have ad := radd_fn (x := r1) (y := tp * vn r2) (hrs1.mono (by decide)) (rm2.mono (by decide))
    have rad := RS_add hrs1 rm2
    obtain ⟨c1, hc1, cm1⟩ := rcmpM_le (x := r1) (y := (vn (m ^ P) + vn ((i - m) ^ P)) * vn 4096) (hrs1.mono (by decide)) (rm1.mono (by decide)) hme.1
    obtain ⟨c2, hc2, cm2⟩ := rcmpM_le (x := (vn (m ^ P) + vn ((i - m) ^ P)) * vn 4096) (y := r1 + tp * vn r2) (rm1.mono (by decide)) (rad.mono (by decide)) hme.2
    clear hme hwk hm rad rm1 rm2 hest hk eg w1 w2 s1 s2 s3 htp pw2
    generalize r1 + tp * vn r2 = y1 at *
    generalize tp * vn r2 = y2 at *
    generalize (vn (m ^ P) + vn ((i - m) ^ P)) * vn 4096 = y4 at *
    generalize vn (m ^ P) + vn ((i - m) ^ P) = y7 at *
    generalize vn (m ^ P) = y8 at *
    generalize vn ((i - m) ^ P) = y9 at *
    generalize m ^ P = z1 at *
    generalize (i - m) ^ P = z2 at *
    generalize vn (max i 1) = y3 at *
    generalize vn 4096 = y5 at *
    generalize vn r2 = y6 at *
    generalize max i 1 = N at *
    repeat (first | (refine callV0 (g1) rfl rfl ?_) | (refine callV0 (n1) rfl rfl ?_) | (refine callV0 (g2) rfl rfl ?_) | (refine callV0 (n2) rfl rfl ?_) | (refine callV0 (ad0) rfl rfl ?_) | (refine callV0 (o0) rfl rfl ?_) | (refine callV0 (pw1) rfl rfl ?_) | (refine callV0 (o1) rfl rfl ?_) | (refine callV0 (m1) rfl rfl ?_) | (refine callV0 (o2) rfl rfl ?_) | (refine callV0 (m3) rfl rfl ?_) | (refine callV0 (ad) rfl rfl ?_) | (refine callV0 (cm1) rfl rfl ?_) | (refine callV0 (cm2) rfl rfl ?_) | (simp (maxSteps := 1000000) (disch := (first | omega | (simp only [lnA, List.length_map, List.length_range, true_and, and_true]; (try omega); done) | fail)) only [go_sem, hmx, Int.reduceEq, Int.reduceToNat, Nat.reduceAdd, Nat.reduceMul, Nat.reduceEqDiff, ↓reduceIte]))
    exact endW [] hQ
end Go.Proofs.Ytpkfddfkacijoaa
