import Derived.Test.YtnfmpphlkalbfaaGreatDoorKf
import Derived.Test.YtnfmpphlkalbfaaGreatDoorKw
import Derived.Test.YtnfmpphlkalbfaaGreatDoorUg
/-! BoundsExps. -/
namespace Go.Proofs.YtnfmpphlkalbfaaGreatDoor
open Go.Eng Go.Vx
set_option linter.unusedSimpArgs false
set_option linter.unusedVariables false
set_option maxRecDepth 100000
theorem fraction_fn {a0 a1 : Int} : ∃ (p q : Nat), 1 ≤ q ∧ q ≤ 64 ∧ p < 64 * q ∧ Fn1 Tryz.prog 15 [.agg [.lit (.int .i64 a0), .lit (.int .i64 a1)]] []
    (.tup [RV (((p : Int) : Rat) / ((q : Int) : Rat)), .lit (.int .i64 (p : Int)), .lit (.int .i64 (q : Int))]) [] := by
  obtain ⟨Q, hQ, hQ1, hQ2⟩ : ∃ Q : Nat, a1 % 64 + 1 = (Q : Int) ∧ 1 ≤ Q ∧ Q ≤ 64 := ⟨(a1 % 64 + 1).toNat, by omega, by omega, by omega⟩
  have hQ' : 1 + a1 % 64 = (Q : Int) := by omega
  obtain ⟨Pm, hP, hP2⟩ : ∃ Pm : Nat, a0 % 4096 = (Pm : Int) ∧ Pm < 4096 := ⟨(a0 % 4096).toNat, by omega, by omega⟩
  have hlt := Nat.mod_lt Pm (show 0 < 64 * Q by omega)
  refine ⟨Pm % (64 * Q), Q, hQ1, hQ2, hlt, ?_⟩
  have hm : (Pm : Int) % (64 * (Q : Int)) = ((Pm % (64 * Q) : Nat) : Int) := by simp
  generalize Pm % (64 * Q) = p at *
  have mk := rmake_fn (p := (p : Int)) (q := (Q : Int)) (by omega) (by omega) (by omega) (by omega) (by omega)
  generalize ((p : Int) : Rat) / ((Q : Int) : Rat) = x at *
  refine fn1N_of pl15 (by kernel_rfl) Tryz.call15 Tryz.func15 rfl (by kernel_rfl) rfl [.cell 2 31, .tmp 3, .tmp 4] (by kernel_rfl) fun Q hQ => ?_
  repeat (first | (refine callV0 (mk) rfl rfl ?_) | (simp (maxSteps := 1000000) (disch := (first | omega | (simp only [lnA, List.length_map, List.length_range, true_and, and_true]; (try omega); done) | fail)) only [go_sem, hQ, hQ', hP, hm, Int.reduceEq, Int.reduceToNat, Nat.reduceAdd, Nat.reduceMul, Nat.reduceEqDiff, ↓reduceIte]))
  exact endW [] hQ
theorem zsmallN_fn {k : Nat} (hk : k < 9223372036854775808) : Fn1 Tryz.prog 89 [.lit (.int .i64 (k : Int))] [] (ZD k 0) [] := by
  have o := lof_fn (W := [k]) (by simp; omega) (by simp)
  rw [show wv [k] = k by simp [wv, valB], show nl [k] = [(k : Int)] from rfl] at o
  rw [ZD0]
  refine fn1N_of pl89 (by kernel_rfl) Tryz.call89 Tryz.func89 rfl (by kernel_rfl) rfl [.cell 2 35] (by kernel_rfl) fun Q hQ => ?_
  simp (maxSteps := 1000000) (disch := (first | omega | (simp only [lnA, List.length_map, List.length_range, true_and, and_true]; (try omega); done) | fail)) only [go_sem, Int.reduceEq, Int.reduceToNat, Nat.reduceAdd, Nat.reduceMul, Nat.reduceEqDiff, ↓reduceIte]
  refine callW [] [1] (o) ?_
  simp (maxSteps := 1000000) (disch := (first | omega | (simp only [lnA, List.length_map, List.length_range, true_and, and_true]; (try omega); done) | fail)) only [go_sem, Int.reduceEq, Int.reduceToNat, Nat.reduceAdd, Nat.reduceMul, Nat.reduceEqDiff, ↓reduceIte]
  exact endW [] hQ
theorem qsmallN_fn {k : Nat} (hk : k < 9223372036854775808) : Fn1 Tryz.prog 59 [.lit (.int .i64 (k : Int))] [] (QD k 0 1) [] := by
  have h := zsmallN_fn hk
  have s := small_fn (n := 1) (by decide)
  rw [show ((1 : Nat) : Int) = 1 from rfl] at s
  refine fn1N_of pl59 (by kernel_rfl) Tryz.call59 Tryz.func59 rfl (by kernel_rfl) rfl [.cell 2 37] (by kernel_rfl) fun Q hQ => ?_
  repeat (first | (refine callV0 (h) rfl rfl ?_) | (refine callV0 (s) rfl rfl ?_) | (simp (maxSteps := 1000000) (disch := (first | omega | (simp only [lnA, List.length_map, List.length_range, true_and, and_true]; (try omega); done) | fail)) only [go_sem, Int.reduceEq, Int.reduceToNat, Nat.reduceAdd, Nat.reduceMul, Nat.reduceEqDiff, ↓reduceIte]))
  exact endW [] hQ
theorem frac28_fn {p q : Nat} (hp : p < 9223372036854775808) (hq : q < 9223372036854775808) : Fn1 Tryz.prog 61 [.lit (.int .i64 (p : Int)), .lit (.int .i64 (q : Int))] [] (QD p 0 q) [] := by
  have h := zsmallN_fn hp
  have s := small_fn (n := q) hq
  have f := qfrac_fn (p := p) (m := 0) (d := q)
  refine fn1N_of pl61 (by kernel_rfl) Tryz.call61 Tryz.func61 rfl (by kernel_rfl) rfl [.cell 4 37] (by kernel_rfl) fun Q hQ => ?_
  repeat (first | (refine callV0 (h) rfl rfl ?_) | (refine callV0 (s) rfl rfl ?_) | (refine callV0 (f) rfl rfl ?_) | (simp (maxSteps := 1000000) (disch := (first | omega | (simp only [lnA, List.length_map, List.length_range, true_and, and_true]; (try omega); done) | fail)) only [go_sem, Int.reduceEq, Int.reduceToNat, Nat.reduceAdd, Nat.reduceMul, Nat.reduceEqDiff, ↓reduceIte]))
  exact endW [] hQ
theorem dg1 {n : Nat} (h : n < 10000) : (dg n).length ≤ 1 := dg_len (by omega)
theorem dg00 : (dg 0).length ≤ 0 := by rw [dg_zero]; exact Nat.le_refl _
theorem tnf_len {p q : Nat} (hp : p < 4096) (hq : q ≤ 64) : ∀ n, n ≤ 24 → (dg (tnf p q n).1).length ≤ n + 1 ∧ (dg (tnf p q n).2).length ≤ n + 1 := by
  intro n
  induction n with
  | zero => intro _; exact ⟨dg1 (show (tnf p q 0).1 < 10000 by exact (by decide : 1 < 10000)), dg1 (show (tnf p q 0).2 < 10000 by exact (by decide : 1 < 10000))⟩
  | succ n ih =>
    intro h
    obtain ⟨a, b⟩ := ih (by omega)
    have hm : q * (n + 1) ≤ 64 * 24 := Nat.mul_le_mul hq h
    exact ⟨dmul_len a (dg1 (show p < 10000 by omega)) (by omega), dmul_len b (dg1 (show q * (n + 1) < 10000 by omega)) (by omega)⟩
theorem snf_len {p q : Nat} (hp : p < 4096) (hq : q ≤ 64) : ∀ n, n ≤ 24 → (dg (snf p q n).1).length ≤ bbL n + n + 1 ∧ (dg (snf p q n).2).length ≤ bbL n := by
  intro n
  induction n with
  | zero => intro _; exact ⟨Nat.le_trans (dg1 (show (snf p q 0).1 < 10000 by exact (by decide : 1 < 10000))) (by decide), dg1 (by exact (by decide : 1 < 10000))⟩
  | succ n ih =>
    intro h
    obtain ⟨a, b⟩ := ih (by omega)
    obtain ⟨c, d⟩ := tnf_len hp hq (n + 1) h
    have e : bbL (n + 1) = bbL n + (n + 2) := rfl
    have l1 := dmul_len a d (l := bbL n + n + 1 + (n + 2)) (by omega)
    have l2 := dmul_len c b (l := n + 2 + bbL n) (by omega)
    exact ⟨Nat.le_trans (dadd_len (Nat.le_trans l1 (Nat.le_refl _)) (Nat.le_trans l2 (by omega))) (by omega), dmul_len b d (by omega)⟩
def qC (x : Nat × Nat) : Ob := .cells [.row 1 ((nl (dg x.1)).map (ie .i64)), .row 1 ((nl (dg 0)).map (ie .i64)), .row 1 ((nl (dg x.2)).map (ie .i64))]
attribute [go_sem] qC
def zqC : Ob := .cells [.lit (.slice none 0 0), .lit (.slice none 0 0), .lit (.slice none 0 0)]
attribute [go_sem] zqC
theorem qC00 (p q : Nat) : qC (snf p q 0) = .cells [.row 1 ((nl (dg 1)).map (ie .i64)), .row 1 ((nl (dg 0)).map (ie .i64)), .row 1 ((nl (dg 1)).map (ie .i64))] ∧ qC (tnf p q 0) = .cells [.row 1 ((nl (dg 1)).map (ie .i64)), .row 1 ((nl (dg 0)).map (ie .i64)), .row 1 ((nl (dg 1)).map (ie .i64))] := ⟨rfl, rfl⟩
theorem refExp_fn {p q : Nat} (hp : p < 4096) (hq0 : 1 ≤ q) (hq : q ≤ 64) : Fn1 Tryz.prog 19 [.lit (.int .i64 (p : Int)), .lit (.int .i64 (q : Int))] []
    (.tup [QD (snf p q 24).1 0 (snf p q 24).2, QD (hnf p q).1 0 (hnf p q).2]) [] := by
  have s1 := qsmallN_fn (k := 1) (by decide)
  rw [show ((1 : Nat) : Int) = 1 from rfl] at s1
  have b24 : bbL 24 = 325 := by decide
  have z0 := dg00
  have hl1 := snf_len hp hq 24 (by decide)
  have hl2 := tnf_len hp hq 24 (by decide)
  have fin := qadd_fn (p := (snf p q 24).1) (m := 0) (d := (snf p q 24).2) (p' := (tnf p q 24).1) (m' := 0) (d' := (tnf p q 24).2) (by omega) (by omega) (by omega) (by omega) (by omega) (by omega)
  rw [Nat.zero_mul, Nat.zero_mul, Nat.add_zero] at fin
  unfold hnf
  generalize hS : (snf p q 24).1 * (tnf p q 24).2 + (tnf p q 24).1 * (snf p q 24).2 = hn at *
  generalize hD : (snf p q 24).2 * (tnf p q 24).2 = hd at *
  refine fn1N_of pl19 (by kernel_rfl) Tryz.call19 Tryz.func19 rfl (by kernel_rfl) rfl [.cell 4 37, .cell 5 37] (by kernel_rfl) fun Q hQ => ?_
  repeat (first | (refine callV0 (s1) rfl rfl ?_) | (simp (maxSteps := 1000000) (disch := (first | omega | (simp only [lnA, List.length_map, List.length_range, true_and, and_true]; (try omega); done) | fail)) only [go_sem, Int.reduceEq, Int.reduceToNat, Nat.reduceAdd, Nat.reduceMul, Nat.reduceEqDiff, ↓reduceIte]))
  refine LoopV_of (X := Nat) (st := fun k => ([(0, .lit (.int .i64 (p : Int))), (1, .lit (.int .i64 (q : Int))), (4, .ref 0 0 0 0), (5, .ref 1 0 0 0), (6, .ref 2 0 0 0), (7, .ref 3 0 0 0), (8, .lit (.int .i64 ((k + 1 : Nat) : Int)))], [some zqC, some zqC, some (qC (snf p q k)), some (qC (tnf p q k))]))
    (inv := fun k => k ≤ 24) (m := fun k => 24 - k) 0 [some 0, some 1, some 2, some 3] rfl (by simp only [qC00]; (simp (disch := (first | omega | (simp only [lnA, List.length_map, List.length_range, true_and, and_true]; (try omega); done) | fail)) only [go_sem, Int.reduceEq, Int.reduceToNat, Nat.reduceAdd, Nat.reduceMul, Nat.reduceEqDiff, ↓reduceIte, true_and, and_true, and_self, List.drop_zero, List.take_length, Nat.le_refl, V.lit.injEq, Value.int.injEq, Value.bool.injEq]; try (first | omega | (simp; done) | (simp; omega)))) (by simp (disch := (first | omega | (simp only [lnA, List.length_map, List.length_range, true_and, and_true]; (try omega); done) | fail)) only [go_sem, Int.reduceEq, Int.reduceToNat, Nat.reduceAdd, Nat.reduceMul, Nat.reduceEqDiff, ↓reduceIte, true_and, and_true, and_self, List.drop_zero, List.take_length, Nat.le_refl, V.lit.injEq, Value.int.injEq, Value.bool.injEq]; try (first | omega | (simp; done) | (simp; omega))) (by omega) ?_
  intro k hk
  by_cases h : k < 24
  · obtain ⟨a1, a2⟩ := tnf_len hp hq k hk
    obtain ⟨a3, a4⟩ := tnf_len hp hq (k + 1) h
    obtain ⟨a5, a6⟩ := snf_len hp hq k hk
    have hbb := bbL_mono hk
    have hm : q * (k + 1) ≤ 64 * 24 := Nat.mul_le_mul hq h
    have hqk : (q : Int) * ((k + 1 : Nat) : Int) = ((q * (k + 1) : Nat) : Int) := by simp
    have fr := frac28_fn (p := p) (q := q * (k + 1)) (by omega) (by omega)
    have p1 := dg1 (show p < 10000 by omega)
    have p2 := dg1 (show q * (k + 1) < 10000 by omega)
    have mu := qmul_fn (p := (tnf p q k).1) (m := 0) (d := (tnf p q k).2) (p' := p) (m' := 0) (d' := q * (k + 1)) (by omega) (by omega) (by omega) (by omega) (by omega) (by omega)
    rw [Nat.zero_mul, Nat.zero_mul, Nat.mul_zero, Nat.add_zero, Nat.add_zero] at mu
    rw [show (tnf p q k).1 * p = (tnf p q (k + 1)).1 from rfl, show (tnf p q k).2 * (q * (k + 1)) = (tnf p q (k + 1)).2 from rfl] at mu
    have ad := qadd_fn (p := (snf p q k).1) (m := 0) (d := (snf p q k).2) (p' := (tnf p q (k + 1)).1) (m' := 0) (d' := (tnf p q (k + 1)).2) (by omega) (by omega) (by omega) (by omega) (by omega) (by omega)
    rw [Nat.zero_mul, Nat.zero_mul, Nat.add_zero] at ad
    rw [show (snf p q k).1 * (tnf p q (k + 1)).2 + (tnf p q (k + 1)).1 * (snf p q k).2 = (snf p q (k + 1)).1 from rfl, show (snf p q k).2 * (tnf p q (k + 1)).2 = (snf p q (k + 1)).2 from rfl] at ad
    clear fin hl1 hl2 a1 a2 a3 a4 a5 a6 s1 b24 hbb
    generalize q * (k + 1) = qk at *
    repeat (first | (refine callV0 (fr) rfl rfl ?_) | (refine callV0 (mu) rfl rfl ?_) | (refine callV0 (ad) rfl rfl ?_) | (simp (maxSteps := 1000000) (disch := (first | omega | (simp only [lnA, List.length_map, List.length_range, true_and, and_true]; (try omega); done) | fail)) only [go_sem, hqk, Int.reduceEq, Int.reduceToNat, Nat.reduceAdd, Nat.reduceMul, Nat.reduceEqDiff, ↓reduceIte]))
    refine nextW (k + 1) [some 0, some 1, some 2, some 3] (by omega) (by omega)
  · obtain rfl : k = 24 := by omega
    clear hl1 hl2 s1 b24
    repeat (first | (refine callV0 (fin) rfl rfl ?_) | (simp (maxSteps := 1000000) (disch := (first | omega | (simp only [lnA, List.length_map, List.length_range, true_and, and_true]; (try omega); done) | fail)) only [go_sem, Int.reduceEq, Int.reduceToNat, Nat.reduceAdd, Nat.reduceMul, Nat.reduceEqDiff, ↓reduceIte]))
    exact endW [] hQ
theorem bl_dg {n k : Nat} (h : (dg n).length ≤ k) : bl n ≤ 14 * k := by
  refine bl_le_of (Nat.lt_of_lt_of_le (dgB_lt_pow (B := 10000) (by decide) n) ?_)
  refine Nat.le_trans (Nat.pow_le_pow_right (by decide) h) ?_
  rw [Nat.pow_mul]
  exact Nat.pow_le_pow_left (by decide) k
theorem exact_fn {x : Nat × Nat} (hD : 0 < x.2) (hP : (dg x.1).length ≤ 400) (hDl : (dg x.2).length ≤ 400) : Fn1 Tryz.prog 20 [QD x.1 0 x.2] [] (RV (qr x)) [] := by
  unfold qr
  obtain ⟨P, D⟩ := x
  simp only [] at *
  have b1 := bl_dg hP
  have b2 := bl_dg hDl
  have w1 : (wg P).length ≤ 88 := wg_bl (by omega)
  have w2 : (wg D).length ≤ 88 := wg_bl (by omega)
  have z0 := dg00
  have zt := ztext_fn (a := P) (b := 0) (x := (P : Int)) (by simp) (by omega) (by omega)
  have wp := wparse_zS (z := (P : Int)) (by rw [Int.natAbs_natCast]; omega)
  have lt := rtext_fn (n := D) (by omega)
  have np := nparse_decS (n := D) (by omega)
  have wm := wmake_fn (b := false) (n := D) (by omega)
  rw [show sg false D = (D : Int) from rfl] at wm
  have fr := rfrac_fn (p := (P : Int)) (q := (D : Int)) (by omega) (by rw [Int.natAbs_natCast]; omega) (by rw [Int.natAbs_natCast]; omega)
  have l1 := zS_len (z := (P : Int)) (k := 88) (by rw [Int.natAbs_natCast]; exact w1)
  have l2 := decS_wg w2
  generalize zS (P : Int) = t1 at *
  generalize decS D = t2 at *
  generalize ((P : Int) : Rat) / ((D : Int) : Rat) = y at *
  refine fn1N_of pl20 (by kernel_rfl) Tryz.call20 Tryz.func20 rfl (by kernel_rfl) rfl [.cell 2 31] (by kernel_rfl) fun Q hQ => ?_
  repeat (first | (refine callV0 (zt) rfl rfl ?_) | (refine callV0 (wp) rfl rfl ?_) | (refine callV0 (lt) rfl rfl ?_) | (refine callV0 (np) rfl rfl ?_) | (refine callV0 (wm) rfl rfl ?_) | (refine callV0 (fr) rfl rfl ?_) | (simp (maxSteps := 1000000) (disch := (first | omega | (simp only [lnA, List.length_map, List.length_range, true_and, and_true]; (try omega); done) | fail)) only [go_sem, Int.reduceEq, Int.reduceToNat, Nat.reduceAdd, Nat.reduceMul, Nat.reduceEqDiff, ↓reduceIte]))
  exact endW [] hQ
theorem good_of {x L H : Rat} {N : Nat} (hN : N ≤ 64) (hP : PowR x (N + 208) L H) (r1 : RS 4000 L) (r2 : RS 4000 H) : Fn1 Tryz.prog 14 [BV L H, .lit (.int .i64 (N : Int)), .lit (.bool true)] [] (.lit (.bool true)) [] := by
  refine good28_fn hN (r1.mono (by decide)) (r2.mono (by decide)) hP.le ?_
  have hwd := hP.width rfl
  have h3 := hP.one
  have h4 := hP.le
  split
  · exact hwd
  · rename_i h
    have : H = 1 := by
      have : ¬ 1 < H := fun e => h ⟨rfl, e⟩
      grind
    rw [this, Rat.mul_one] at hwd
    rw [this]
    exact hwd
theorem expB_fn {x L H : Rat} {N : Nat} (hx : RS 2 x) (h0 : 0 ≤ x) (h1 : x ≤ ((64 : Int) : Rat)) (hN : 1 ≤ N) (hN2 : N ≤ 64) (hA : PowR x (N + 208) L H) (r1 : RS 4000 L) (r2 : RS 4000 H)
    (ea : Fn1 Tryz.prog 7 [RV x, .lit (.int .i64 (N : Int))] [] (.tup [BV L H, .lit (.int .i64 0)]) []) :
    ∃ L' H', Fn1 Tryz.prog 7 [RV (0 - x), .lit (.int .i64 (N : Int))] [] (.tup [BV L' H', .lit (.int .i64 0)]) [] ∧ L * L' ≤ 1 ∧ 1 ≤ H * H' ∧ 0 < L' ∧ RS 5000 L' ∧ RS 5000 H' ∧
      Fn1 Tryz.prog 14 [BV L' H', .lit (.int .i64 (N : Int)), .lit (.bool true)] [] (.lit (.bool true)) [] := by
  have k1 := hA.one
  have k2 := hA.le
  by_cases hz : x = 0
  · subst hz
    rw [show (0 : Rat) - 0 = 0 by decide +kernel]
    obtain ⟨e1, e2⟩ := exp_zero hA.bnd hA.one
    refine ⟨L, H, ea, by rw [e1]; decide +kernel, ?_, by grind, r1.mono (by decide), r2.mono (by decide), good_of hN2 hA r1 r2⟩
    have := mul_le_mul' e2 e2 (by decide +kernel) (by grind)
    grind
  · have hneg : 0 - x < 0 := by grind
    have e64 : ((64 : Int) : Rat) = 64 := rfl
    obtain ⟨L', H', hP, s1, s2, ex⟩ := expNeg_fn (x := 0 - x) (N := N) ((RS_sub RS_zero hx).mono (by decide)) hN hN2 hneg (by rw [show ((-64 : Int) : Rat) = -64 by decide +kernel]; rw [e64] at h1; grind)
    rw [show 0 - (0 - x) = x by grind] at hP
    have hR := hP.neg (A := N + 120) (B := N + 208) rfl rfl
    obtain ⟨a, b⟩ := exp_prod2 (A := N + 120) hA.one hP.one (exp_le hA.bnd hP.bnd) (exp_le hP.bnd hA.bnd)
    refine ⟨_, _, ex, a, b, hR.pos, (RS_dn' (by omega) (RS_div (by decide) RS_one s2)).mono (by decide), (RS_up' (by omega) (RS_div (by decide) RS_one s1)).mono (by decide), ?_⟩
    refine good28_fn hN2 ((RS_dn' (by omega) (RS_div (by decide) RS_one s2)).mono (by decide)) ((RS_up' (by omega) (RS_div (by decide) RS_one s1)).mono (by decide)) hR.le ?_
    have := hR.one
    rw [if_neg (fun h => Rat.not_lt.2 this h.2)]
    exact hR.wid
set_option maxHeartbeats 16000000 in
theorem boundsExps_fn {a0 a1 bits : Int} (n0 : -9223372036854775808 ≤ bits) (n1 : bits ≤ 9223372036854775807) : Fn1 Tryz.prog 4 [.agg [.lit (.int .i64 a0), .lit (.int .i64 a1)], .lit (.int .i64 bits)] [] (.lit (.bool true)) [] := by
  obtain ⟨p, q, hq1, hq2, hp, fx⟩ := fraction_fn (a0 := a0) (a1 := a1)
  obtain ⟨N, hN, hN1, hN2⟩ : ∃ N : Nat, bits % 64 + 1 = (N : Int) ∧ 1 ≤ N ∧ N ≤ 64 := ⟨(bits % 64 + 1).toNat, by omega, by omega, by omega⟩
  have hN' : 1 + bits % 64 = (N : Int) := by omega
  have hqp : (0 : Rat) < ((q : Int) : Rat) := by
    have : ((0 : Int) : Rat) < ((q : Int) : Rat) := Rat.intCast_lt_intCast.2 (by omega)
    exact this
  have hp0 : (0 : Rat) ≤ ((p : Int) : Rat) := nat_le (Nat.zero_le p)
  have hxq : ((p : Int) : Rat) / ((q : Int) : Rat) * ((q : Int) : Rat) = ((p : Int) : Rat) := by grind
  have le_of : ∀ c : Nat, p ≤ c * q → ((p : Int) : Rat) / ((q : Int) : Rat) ≤ ((c : Int) : Rat) := by
    intro c hc
    have h := nat_le hc
    rw [cm] at h
    by_cases h2 : ((p : Int) : Rat) / ((q : Int) : Rat) ≤ ((c : Int) : Rat)
    · exact h2
    · exfalso
      have := Rat.mul_lt_mul_of_pos_right (Rat.not_le.1 h2) hqp
      grind
  have hx0 : 0 ≤ ((p : Int) : Rat) / ((q : Int) : Rat) := by
    by_cases h2 : 0 ≤ ((p : Int) : Rat) / ((q : Int) : Rat)
    · exact h2
    · exfalso
      have := Rat.mul_lt_mul_of_pos_right (Rat.not_le.1 h2) hqp
      grind
  have hx64 := le_of 64 (by omega)
  have sx : RS 2 (((p : Int) : Rat) / ((q : Int) : Rat)) := RS_div (by decide) (RS_small (by omega)) (RS_small (by omega))
  rw [show (((64 : Nat) : Int) : Rat) = ((64 : Int) : Rat) from rfl] at hx64
  obtain ⟨L, H, hA, r1, r2, ea⟩ := expPos_fn (N := N) (sx.mono (by decide)) hN1 hN2 hx0 hx64
  obtain ⟨L', H', eb, hLL, hHH, hL'0, r1', r2', gb⟩ := expB_fn sx hx0 hx64 hN1 hN2 hA r1 r2 ea
  have ga := good_of hN2 hA r1 r2
  have k1 := hA.one
  have k2 := hA.le
  have o0 := rof_fn (n := 0) (by decide) (by decide)
  rw [show ((0 : Int) : Rat) = 0 from rfl] at o0
  have o1 := rof1_fn
  have o2 := rof_fn (n := 2) (by decide) (by decide)
  have sz := RS_zero.mono (show 1 ≤ 400000 by decide)
  have su := rsub_fn sz (sx.mono (show 2 ≤ 400000 by decide))
  obtain ⟨c1, hc1, cm1⟩ := rcmp_gt (r1.mono (show 4000 ≤ 400000 by decide)) sz (by grind)
  obtain ⟨c2, hc2, cm2⟩ := rcmp_gt (r1'.mono (show 5000 ≤ 400000 by decide)) sz hL'0
  have m1 := rmul_fn (r1.mono (show 4000 ≤ 400000 by decide)) (r1'.mono (show 5000 ≤ 400000 by decide))
  have m2 := rmul_fn (r2.mono (show 4000 ≤ 400000 by decide)) (r2'.mono (show 5000 ≤ 400000 by decide))
  have me := meet_fn (L := L * L') (H := H * H') (l := 1) (h := 1) ((RS_mul r1 r1').mono (by decide)) ((RS_mul r2 r2').mono (by decide)) (RS_one.mono (by decide)) (RS_one.mono (by decide)) hLL hHH
  by_cases h4 : p ≤ 4 * q
  · have hx4 := le_of 4 h4
    obtain ⟨a, b⟩ := exp_meet hx0 hx4 hA.bnd
    have re := refExp_fn (p := p) (q := q) (by omega) hq1 hq2
    rw [← snf_Sx (p := p) (q := q) (by omega)] at b
    rw [← hnf_eq (p := p) (q := q) (by omega)] at a
    have b24 : bbL 24 = 325 := by decide
    have l1 := snf_len (p := p) (q := q) (by omega) hq2 24 (by decide)
    have l2 := tnf_len (p := p) (q := q) (by omega) hq2 24 (by decide)
    have d1 := snf_pos (p := p) (q := q) (by omega) 24
    have d2 := tnf_pos (p := p) (q := q) (by omega) 24
    have l3 : (dg (hnf p q).1).length ≤ 400 := Nat.le_trans (dadd_len (dmul_len l1.1 l2.2 (l := 375) (by omega)) (Nat.le_trans (dmul_len l2.1 l1.2 rfl) (by omega))) (by decide)
    have l4 : (dg (hnf p q).2).length ≤ 400 := Nat.le_trans (dmul_len l1.2 l2.2 rfl) (by omega)
    have d3 : 0 < (hnf p q).2 := Nat.mul_pos d1 d2
    have x1 := exact_fn (x := snf p q 24) d1 (by omega) (by omega)
    have x2 := exact_fn (x := hnf p q) d3 l3 l4
    have qrs : ∀ y : Nat × Nat, (dg y.1).length ≤ 400 → (dg y.2).length ≤ 400 → RS 200 (qr y) := fun y h1 h2 => by
      have b1 := bl_dg h1
      have b2 := bl_dg h2
      exact (RS_div (k := 88) (l := 88) (by decide) (RS_int (by rw [Int.natAbs_natCast]; exact wg_bl (by omega)) (by decide)) (RS_int (by rw [Int.natAbs_natCast]; exact wg_bl (by omega)) (by decide))).mono (by decide)
    have s1 := qrs (snf p q 24) (by omega) (by omega)
    have s2 := qrs (hnf p q) l3 l4
    have me2 := meet_fn (L := L) (H := H) (l := qr (snf p q 24)) (h := qr (hnf p q)) (r1.mono (by decide)) (r2.mono (by decide)) (s1.mono (by decide)) (s2.mono (by decide)) a b
    clear hA hLL hHH hL'0 r1 r2 r1' r2' k1 k2 sz a b l1 l2 l3 l4 d1 d2 d3 s1 s2 qrs le_of hxq hp0 hqp hx0 hx64 hx4 sx
    generalize L * L' = LL at *
    generalize H * H' = HH at *
    generalize qr (snf p q 24) = lo at *
    generalize qr (hnf p q) = hi at *
    generalize (snf p q 24).1 = t1 at *
    generalize (snf p q 24).2 = t2 at *
    generalize (hnf p q).1 = t3 at *
    generalize (hnf p q).2 = t4 at *
    generalize ((p : Int) : Rat) / ((q : Int) : Rat) = x at *
    generalize 0 - x = mx at *
    generalize (0 : Rat) = w0 at *
    generalize (1 : Rat) = w1 at *
    generalize ((2 : Int) : Rat) = w2 at *
    refine fn1N_of pl4 (by kernel_rfl) Tryz.call4 Tryz.func4 rfl (by kernel_rfl) rfl [.tmp 4] (by kernel_rfl) fun Q hQ => ?_
    repeat (first | (refine callV0 (awake28_fn) rfl rfl ?_) | (refine callV0 (fx) rfl rfl ?_) | (refine callV0 (ea) rfl rfl ?_) | (refine callV0 (o0) rfl rfl ?_) | (refine callV0 (su) rfl rfl ?_) | (refine callV0 (eb) rfl rfl ?_) | (refine callV0 (ga) rfl rfl ?_) | (refine callV0 (gb) rfl rfl ?_) | (refine callV0 (cm1) rfl rfl ?_) | (refine callV0 (cm2) rfl rfl ?_) | (refine callV0 (m1) rfl rfl ?_) | (refine callV0 (m2) rfl rfl ?_) | (refine callV0 (o1) rfl rfl ?_) | (refine callV0 (me) rfl rfl ?_) | (refine callV0 (re) rfl rfl ?_) | (refine callV0 (x1) rfl rfl ?_) | (refine callV0 (x2) rfl rfl ?_) | (refine callV0 (me2) rfl rfl ?_) | (simp (maxSteps := 1000000) (disch := (first | omega | (simp only [lnA, List.length_map, List.length_range, true_and, and_true]; (try omega); done) | fail)) only [go_sem, hN, hN', List.append_eq, List.cons_append, List.nil_append, Int.reduceEq, Int.reduceToNat, Nat.reduceAdd, Nat.reduceMul, Nat.reduceEqDiff, ↓reduceIte]))
    exact endW [] hQ
  · have h2x : 0 ≤ ((p : Int) : Rat) / ((q : Int) : Rat) / ((2 : Int) : Rat) := by
      rw [show ((2 : Int) : Rat) = 2 from rfl]
      grind
    have h2y : ((p : Int) : Rat) / ((q : Int) : Rat) / ((2 : Int) : Rat) ≤ ((64 : Int) : Rat) := by
      rw [show ((2 : Int) : Rat) = 2 from rfl]
      rw [show ((64 : Int) : Rat) = 64 from rfl] at *
      grind
    have dv := rdiv_fn (x := ((p : Int) : Rat) / ((q : Int) : Rat)) (y := ((2 : Int) : Rat)) (by decide +kernel) (sx.mono (show 2 ≤ 400000 by decide)) (RS_two.mono (show 1 ≤ 400000 by decide))
    obtain ⟨l, h, hC, r3, r4, ec⟩ := expPos_fn (N := N) ((RS_div (by decide) sx RS_two).mono (by decide)) hN1 hN2 h2x h2y
    have hCb := hC.bnd
    rw [show ((2 : Int) : Rat) = 2 from rfl] at hCb
    obtain ⟨a, b⟩ := exp_half hx0 hA.bnd hCb hC.one
    have m3 := rmul_fn (r3.mono (show 4000 ≤ 400000 by decide)) (r3.mono (show 4000 ≤ 400000 by decide))
    have m4 := rmul_fn (r4.mono (show 4000 ≤ 400000 by decide)) (r4.mono (show 4000 ≤ 400000 by decide))
    have me2 := meet_fn (L := L) (H := H) (l := l * l) (h := h * h) (r1.mono (by decide)) (r2.mono (by decide)) ((RS_mul r3 r3).mono (by decide)) ((RS_mul r4 r4).mono (by decide)) a b
    clear hA hLL hHH hL'0 r1 r2 r1' r2' k1 k2 sz a b le_of hxq hp0 hqp hx0 hx64 sx h2x h2y hC hCb r3 r4
    generalize L * L' = LL at *
    generalize H * H' = HH at *
    generalize l * l = ll at *
    generalize h * h = hh at *
    generalize ((p : Int) : Rat) / ((q : Int) : Rat) = x at *
    generalize 0 - x = mx at *
    generalize ((2 : Int) : Rat) = w2 at *
    generalize x / w2 = x2 at *
    generalize (0 : Rat) = w0 at *
    generalize (1 : Rat) = w1 at *
    refine fn1N_of pl4 (by kernel_rfl) Tryz.call4 Tryz.func4 rfl (by kernel_rfl) rfl [.tmp 4] (by kernel_rfl) fun Q hQ => ?_
    repeat (first | (refine callV0 (awake28_fn) rfl rfl ?_) | (refine callV0 (fx) rfl rfl ?_) | (refine callV0 (ea) rfl rfl ?_) | (refine callV0 (o0) rfl rfl ?_) | (refine callV0 (su) rfl rfl ?_) | (refine callV0 (eb) rfl rfl ?_) | (refine callV0 (ga) rfl rfl ?_) | (refine callV0 (gb) rfl rfl ?_) | (refine callV0 (cm1) rfl rfl ?_) | (refine callV0 (cm2) rfl rfl ?_) | (refine callV0 (m1) rfl rfl ?_) | (refine callV0 (m2) rfl rfl ?_) | (refine callV0 (o1) rfl rfl ?_) | (refine callV0 (me) rfl rfl ?_) | (refine callV0 (o2) rfl rfl ?_) | (refine callV0 (dv) rfl rfl ?_) | (refine callV0 (ec) rfl rfl ?_) | (refine callV0 (m3) rfl rfl ?_) | (refine callV0 (m4) rfl rfl ?_) | (refine callV0 (me2) rfl rfl ?_) | (simp (maxSteps := 1000000) (disch := (first | omega | (simp only [lnA, List.length_map, List.length_range, true_and, and_true]; (try omega); done) | fail)) only [go_sem, hN, hN', List.append_eq, List.cons_append, List.nil_append, Int.reduceEq, Int.reduceToNat, Nat.reduceAdd, Nat.reduceMul, Nat.reduceEqDiff, ↓reduceIte]))
    exact endW [] hQ
end Go.Proofs.YtnfmpphlkalbfaaGreatDoor
