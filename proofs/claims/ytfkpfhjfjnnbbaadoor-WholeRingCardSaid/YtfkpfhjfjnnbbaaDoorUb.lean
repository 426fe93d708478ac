import Derived.Test.YtfkpfhjfjnnbbaaDoorUa
/-! Law 6: what its statements share. -/
namespace Go.Proofs.YtfkpfhjfjnnbbaaDoor
open Go.Eng Go.Vx
set_option linter.unusedSimpArgs false
set_option linter.unusedVariables false
set_option maxRecDepth 100000
theorem wsub_fn {x y : Int} (hx : (wg x.natAbs).length ≤ 1000000) (hy : (wg y.natAbs).length ≤ 1000000) : Fn1 Tryd.prog 46 [WV x, WV y] [] (WV (x - y)) [] := by
  have h1 := wminus_fn (z := y) (by omega)
  have h2 := wadd_fn (x := x) (y := -y) hx (by rw [Int.natAbs_neg]; exact hy)
  rw [← Int.sub_eq_add_neg] at h2
  refine fn1N_of pl46 (by kernel_rfl) Tryd.call46 Tryd.func46 rfl (by kernel_rfl) rfl [.cell 4 60] (by kernel_rfl) fun Q hQ => ?_
  repeat (first | (refine callV0 (h1) rfl rfl ?_) | (refine callV0 (h2) rfl rfl ?_) | (simp (maxSteps := 1000000) (disch := (first | omega | (simp only [lnA, List.length_map, List.length_range, true_and, and_true]; (try omega); done) | fail)) only [go_sem, Int.reduceEq, Int.reduceToNat, Nat.reduceAdd, Nat.reduceMul, Nat.reduceEqDiff, ↓reduceIte]))
  exact endW [] hQ
theorem WV_zero : WV 0 = .agg [.row 1 [], .lit (.bool false)] := by
  unfold WV
  rw [show (0 : Int).natAbs = 0 from rfl, wg_zero]
  rfl
theorem wdiv0_fn {x : Int} (hx : (wg x.natAbs).length ≤ 1000000) : Fn1 Tryd.prog 53 [WV x, WV 0] [] (.tup [WV 0, WV 0, .lit (.int .i64 7)]) [] := by
  have h := ndiv0_fn (a := x.natAbs) hx
  rw [NV_zero] at h
  rw [WV_zero]
  refine fn1N_of pl53 (by kernel_rfl) Tryd.call53 Tryd.func53 rfl (by kernel_rfl) rfl [.cell 4 60, .cell 5 60, .tmp 6] (by kernel_rfl) fun Q hQ => ?_
  repeat (first | (refine callV0 (h) rfl rfl ?_) | (simp (maxSteps := 1000000) (disch := (first | omega | (simp only [lnA, List.length_map, List.length_range, true_and, and_true]; (try omega); done) | fail)) only [go_sem, Int.reduceEq, Int.reduceToNat, Nat.reduceAdd, Nat.reduceMul, Nat.reduceEqDiff, ↓reduceIte]))
  exact endW [] hQ
theorem zS_lit (n : Nat) (h : n < 10) : decS n = [UInt8.ofNat (48 + n)] := by
  have : ∀ n, n < 10 → decS n = [UInt8.ofNat (48 + n)] := fun n h => by
    rw [decS_small h]
  exact this n h
theorem awake6_fn : Fn1 Tryd.prog 41 [] [] (.lit (.bool true)) [] := by
  have o1 := wof_fn (n := -7) (by decide) (by decide)
  have o2 := wof_fn (n := 2) (by decide) (by decide)
  have w7 : (wg 7).length ≤ 1 := wg_one (by decide)
  have w2 : (wg 2).length ≤ 1 := wg_one (by decide)
  have w4 : (wg 4).length ≤ 1 := wg_one (by decide)
  have w1 : (wg 1).length ≤ 1 := wg_one (by decide)
  have d := wdiv_fn (x := -7) (y := 2) (by decide) (by rw [show (-7 : Int).natAbs = 7 from rfl]; omega) (show (wg 2).length ≤ 999998 by omega)
  rw [show (-7 : Int) / 2 = -4 from by decide, show (-7 : Int) % 2 = 1 from by decide] at d
  have t1 := wtext_fn (x := -4) (by rw [show (-4 : Int).natAbs = 4 from rfl]; omega)
  have t2 := wtext_fn (x := 1) (show (wg 1).length ≤ 100000 by omega)
  rw [show zS (-4) = [45, 52] by unfold zS; rw [if_pos (by decide), show (-4 : Int).natAbs = 4 from rfl, zS_lit 4 (by decide)]; decide] at t1
  rw [show zS 1 = [49] by unfold zS; rw [if_neg (by decide), show (1 : Int).natAbs = 1 from rfl, zS_lit 1 (by decide)]; decide] at t2
  generalize (-4 : Int) = A at *
  refine fn1N_of pl41 (by kernel_rfl) Tryd.call41 Tryd.func41 rfl (by kernel_rfl) rfl [.tmp 0] (by kernel_rfl) fun Q hQ => ?_
  repeat (first | (refine callV0 (o1) rfl rfl ?_) | (refine callV0 (o2) rfl rfl ?_) | (refine callV0 (d) rfl rfl ?_) | (refine callV0 (t1) rfl rfl ?_) | (refine callV0 (t2) rfl rfl ?_) | (simp (maxSteps := 1000000) (disch := (first | omega | (simp only [lnA, List.length_map, List.length_range, true_and, and_true]; (try omega); done) | fail)) only [go_sem, eq_self, decide_true, Int.reduceEq, Int.reduceToNat, Nat.reduceAdd, Nat.reduceMul, Nat.reduceEqDiff, ↓reduceIte]))
  exact endW [] hQ
/-- What a draw says. -/
theorem both6_of {W0 : List Nat} {b : Bool} (hW0 : ∀ d ∈ W0, d < 18446744073709551616) (lW : W0.length ≤ 9223372036854775807) : ∃ (z : Int) (p m : Nat), z = (p : Int) - m ∧ (wg z.natAbs).length ≤ 5 ∧ (dg p).length ≤ 25 ∧ (dg m).length ≤ 25 ∧
    Fn1 Tryd.prog 42 [.agg [.row 1 ((nl W0).map (ie .u64)), .lit (.bool b)]] [] (.tup [WV z, ZD p m]) [] := by
  obtain ⟨fp, hP, hPl⟩ := few_of (k := 5) hW0 lW (by decide)
  generalize W0.take 5 = W at *
  have oa := of_fn hP (by omega)
  have la := val_len hP hPl
  have da := wv_len hP
  have za := zmake_fn (b := b) hP (by omega)
  unfold wv at za da
  generalize valB 18446744073709551616 W = v at *
  have wm := wmake_fn (b := b) (n := v) (by omega)
  have d0 : (dg 0).length ≤ 25 := by rw [dg_zero]; decide
  cases b with
  | false =>
    refine ⟨sg false v, v, 0, by simp [sg], by rw [sg_abs]; exact la, by omega, d0, ?_⟩
    simp only [Bool.false_eq_true, if_false] at za
    refine fn1N_of pl42 (by kernel_rfl) Tryd.call42 Tryd.func42 rfl (by kernel_rfl) rfl [.cell 2 60, .cell 3 62] (by kernel_rfl) fun Q hQ => ?_
    repeat (first | (refine callV0 (fp) rfl rfl ?_) | (refine callV0 (oa) rfl rfl ?_) | (refine callV0 (za) rfl rfl ?_) | (refine callV0 (wm) rfl rfl ?_) | (simp (maxSteps := 1000000) (disch := (first | omega | (simp only [lnA, List.length_map, List.length_range, true_and, and_true]; (try omega); done) | fail)) only [go_sem, Int.reduceEq, Int.reduceToNat, Nat.reduceAdd, Nat.reduceMul, Nat.reduceEqDiff, ↓reduceIte]))
    exact endW [] hQ
  | true =>
    refine ⟨sg true v, 0, v, by simp [sg], by rw [sg_abs]; exact la, d0, by omega, ?_⟩
    simp only [if_true] at za
    refine fn1N_of pl42 (by kernel_rfl) Tryd.call42 Tryd.func42 rfl (by kernel_rfl) rfl [.cell 2 60, .cell 3 62] (by kernel_rfl) fun Q hQ => ?_
    repeat (first | (refine callV0 (fp) rfl rfl ?_) | (refine callV0 (oa) rfl rfl ?_) | (refine callV0 (za) rfl rfl ?_) | (refine callV0 (wm) rfl rfl ?_) | (simp (maxSteps := 1000000) (disch := (first | omega | (simp only [lnA, List.length_map, List.length_range, true_and, and_true]; (try omega); done) | fail)) only [go_sem, Int.reduceEq, Int.reduceToNat, Nat.reduceAdd, Nat.reduceMul, Nat.reduceEqDiff, ↓reduceIte]))
    exact endW [] hQ
theorem zadd_len {x y : Int} {k l : Nat} (hx : (wg x.natAbs).length ≤ k) (hy : (wg y.natAbs).length ≤ k) (hl : k + 1 = l) : (wg (x + y).natAbs).length ≤ l := by
  subst hl
  exact Nat.le_trans (wmono_len (Int.natAbs_add_le x y)) (wadd_len hx hy)
theorem zsub_len {x y : Int} {k l : Nat} (hx : (wg x.natAbs).length ≤ k) (hy : (wg y.natAbs).length ≤ k) (hl : k + 1 = l) : (wg (x - y).natAbs).length ≤ l := by
  rw [Int.sub_eq_add_neg]
  exact zadd_len hx (by rw [Int.natAbs_neg]; exact hy) hl
theorem zmul_len {x y : Int} {k j l : Nat} (hx : (wg x.natAbs).length ≤ k) (hy : (wg y.natAbs).length ≤ j) (hl : k + j = l) : (wg (x * y).natAbs).length ≤ l := by
  subst hl
  rw [Int.natAbs_mul]
  exact Nat.le_trans (wmul_len _ _) (Nat.add_le_add hx hy)
theorem dmul_len {a b k j l : Nat} (ha : (dg a).length ≤ k) (hb : (dg b).length ≤ j) (hl : k + j = l) : (dg (a * b)).length ≤ l := by
  subst hl
  exact Nat.le_trans (dg_mul _ _) (Nat.add_le_add ha hb)
theorem dadd_len' {a b k l : Nat} (ha : (dg a).length ≤ k) (hb : (dg b).length ≤ k) (hl : k + 1 = l) : (dg (a + b)).length ≤ l := by
  subst hl
  exact dadd_len ha hb
set_option maxHeartbeats 8000000 in
theorem wholeSums_fn {P0 Q0 : List Nat} {b c : Bool} (hP0 : ∀ d ∈ P0, d < 18446744073709551616) (lP : P0.length ≤ 9223372036854775807) (hQ0 : ∀ d ∈ Q0, d < 18446744073709551616) (lQ : Q0.length ≤ 9223372036854775807) :
    Fn1 Tryd.prog 9 [.agg [.row 1 ((nl P0).map (ie .u64)), .lit (.bool b)], .agg [.row 1 ((nl Q0).map (ie .u64)), .lit (.bool c)]] [] (.lit (.bool true)) [] := by
  obtain ⟨x, p, m, hx, lx, lp, lm, fx⟩ := both6_of (b := b) hP0 lP
  obtain ⟨y, q, n, hy, ly, lq, ln, fy⟩ := both6_of (b := c) hQ0 lQ
  have a1 := wadd_fn (x := x) (y := y) (by omega) (by omega)
  have a2 := zadd_fn (a := p) (b := m) (c := q) (d := n) (by omega) (by omega) (by omega) (by omega)
  have a3 := is6_fn (x := x + y) (a := p + q) (b := m + n) (by omega) (Nat.le_trans (zadd_len lx ly rfl) (by decide)) (Nat.le_trans (dadd_len lp lq) (by decide)) (Nat.le_trans (dadd_len lm ln) (by decide))
  have b1 := wsub_fn (x := x) (y := y) (by omega) (by omega)
  have b2 := zturn_fn (a := q) (b := n)
  have b3 := zadd_fn (a := p) (b := m) (c := n) (d := q) (by omega) (by omega) (by omega) (by omega)
  have b4 := is6_fn (x := x - y) (a := p + n) (b := m + q) (by omega) (Nat.le_trans (zsub_len lx ly rfl) (by decide)) (Nat.le_trans (dadd_len lp ln) (by decide)) (Nat.le_trans (dadd_len lm lq) (by decide))
  have c1 := wmul_fn (x := x) (y := y) (by omega) (by omega)
  have c2 := zmul_fn (a := p) (b := m) (c := q) (d := n) (by omega) (by omega) (by omega) (by omega)
  have hm : x * y = ((p * q + m * n : Nat) : Int) - ((p * n + m * q : Nat) : Int) := by
    rw [hx, hy, Int.sub_mul, Int.mul_sub, Int.mul_sub]
    simp only [Int.natCast_add, Int.natCast_mul]
    omega
  have c3 := is6_fn (x := x * y) (a := p * q + m * n) (b := p * n + m * q) hm (Nat.le_trans (zmul_len lx ly rfl) (by decide)) (Nat.le_trans (dadd_len (dmul_len lp lq rfl) (dmul_len lm ln rfl)) (by decide)) (Nat.le_trans (dadd_len (dmul_len lp ln rfl) (dmul_len lm lq rfl)) (by decide))
  have d1 := wminus_fn (z := x) (by omega)
  have d2 := zturn_fn (a := p) (b := m)
  have d3 := is6_fn (x := -x) (a := m) (b := p) (by omega) (by rw [Int.natAbs_neg]; omega) (by omega) (by omega)
  have e1 := wcmp_fn (x := x) (y := y) (by omega) (by omega)
  have e2 := zcmp_fn (x := x) (y := y) hx hy (by omega) (by omega) (by omega) (by omega)
  generalize p * q + m * n = u1 at *
  generalize p * n + m * q = u2 at *
  generalize p + q = u3 at *
  generalize m + n = u4 at *
  generalize p + n = u5 at *
  generalize m + q = u6 at *
  clear hm hx hy
  generalize x * y = v1 at *
  generalize x + y = v2 at *
  generalize x - y = v3 at *
  generalize -x = v4 at *
  refine fn1N_of pl9 (by kernel_rfl) Tryd.call9 Tryd.func9 rfl (by kernel_rfl) rfl [.tmp 4] (by kernel_rfl) fun Q hQ => ?_
  repeat (first | (refine callV0 (awake6_fn) rfl rfl ?_) | (refine callV0 (fx) rfl rfl ?_) | (refine callV0 (fy) rfl rfl ?_) | (refine callV0 (a1) rfl rfl ?_) | (refine callV0 (a2) rfl rfl ?_) | (refine callV0 (a3) rfl rfl ?_) | (refine callV0 (b1) rfl rfl ?_) | (refine callV0 (b2) rfl rfl ?_) | (refine callV0 (b3) rfl rfl ?_) | (refine callV0 (b4) rfl rfl ?_) | (refine callV0 (c1) rfl rfl ?_) | (refine callV0 (c2) rfl rfl ?_) | (refine callV0 (c3) rfl rfl ?_) | (refine callV0 (d1) rfl rfl ?_) | (refine callV0 (d2) rfl rfl ?_) | (refine callV0 (d3) rfl rfl ?_) | (refine callV0 (e1) rfl rfl ?_) | (refine callV0 (e2) rfl rfl ?_) | (simp (maxSteps := 1000000) (disch := (first | omega | (simp only [lnA, List.length_map, List.length_range, true_and, and_true]; (try omega); done) | fail)) only [go_sem, eq_self, decide_true, decide_false, List.append_eq, List.cons_append, List.nil_append, Int.reduceEq, Int.reduceToNat, Nat.reduceAdd, Nat.reduceMul, Nat.reduceEqDiff, ↓reduceIte]))
  exact endW [] hQ
set_option maxHeartbeats 8000000 in
theorem wholeDivides_fn {P0 Q0 : List Nat} {b c : Bool} (hP0 : ∀ d ∈ P0, d < 18446744073709551616) (lP : P0.length ≤ 9223372036854775807) (hQ0 : ∀ d ∈ Q0, d < 18446744073709551616) (lQ : Q0.length ≤ 9223372036854775807) :
    Fn1 Tryd.prog 10 [.agg [.row 1 ((nl P0).map (ie .u64)), .lit (.bool b)], .agg [.row 1 ((nl Q0).map (ie .u64)), .lit (.bool c)]] [] (.lit (.bool true)) [] := by
  obtain ⟨x, p, m, hx, lx, lp, lm, fx⟩ := both6_of (b := b) hP0 lP
  obtain ⟨y, q, n, hy, ly, lq, ln, fy⟩ := both6_of (b := c) hQ0 lQ
  have ab := zabs_fn hy (by omega) (by omega)
  have hna := nl_len (dg y.natAbs)
  by_cases h : y = 0
  · subst h
    have dv := wdiv0_fn (x := x) (by omega)
    have e : (dg 0).length = 0 := by rw [dg_zero]; rfl
    have t := wtext_fn (x := 0) (show (wg 0).length ≤ 100000 by rw [wg_zero]; decide)
    rw [show zS 0 = [48] by unfold zS; rw [if_neg (by decide), show (0 : Int).natAbs = 0 from rfl, zS_lit 0 (by decide)]; decide] at t
    rw [show (0 : Int).natAbs = 0 from rfl] at hna ab
    clear hy
    refine fn1N_of pl10 (by kernel_rfl) Tryd.call10 Tryd.func10 rfl (by kernel_rfl) rfl [.tmp 4] (by kernel_rfl) fun Q hQ => ?_
    repeat (first | (refine callV0 (awake6_fn) rfl rfl ?_) | (refine callV0 (fx) rfl rfl ?_) | (refine callV0 (fy) rfl rfl ?_) | (refine callV0 (dv) rfl rfl ?_) | (refine callV0 (ab) rfl rfl ?_) | (refine callV0 (t) rfl rfl ?_) | (simp (maxSteps := 1000000) (disch := (first | omega | (simp only [lnA, List.length_map, List.length_range, true_and, and_true]; (try omega); done) | fail)) only [go_sem, eq_self, decide_true, decide_false, List.append_eq, List.cons_append, List.nil_append, Int.reduceEq, Int.reduceToNat, Nat.reduceAdd, Nat.reduceMul, Nat.reduceEqDiff, ↓reduceIte]))
    exact endW [] hQ
  · have dv := wdiv_fn (x := x) (y := y) h (by omega) (by omega)
    have hp := dg_pos (b := y.natAbs) (by omega)
    have hr0 := Int.emod_nonneg x h
    have hr1 := Int.emod_lt x h
    have eq : x / y * y + x % y = x := by rw [Int.mul_comm]; exact Int.mul_ediv_add_emod x y
    have lqq : (wg (x / y).natAbs).length ≤ 6 := by
      refine Nat.le_trans (wmono_len (show (x / y).natAbs ≤ x.natAbs + 1 from ?_)) (wadd_len lx (Nat.le_trans (wg_one (by decide)) (by decide)))
      have := Int.natAbs_ediv_le_natAbs x y
      omega
    have lr : (wg (x % y).natAbs).length ≤ 5 := Nat.le_trans (wmono_len (by omega)) ly
    obtain ⟨u, hu⟩ : ∃ u, x / y = u := ⟨_, rfl⟩
    obtain ⟨r, hr⟩ : ∃ r, x % y = r := ⟨_, rfl⟩
    rw [hu] at dv eq lqq
    rw [hr] at dv eq lr hr0 hr1
    have g1 := wneg_fn (z := r)
    rw [decide_eq_false (by omega)] at g1
    have g2 := wabs_fn (z := r)
    have g3 := wabs_fn (z := y)
    have g4 := ncmp_fn (a := r.natAbs) (b := y.natAbs) (by omega) (by omega)
    rw [cmpI_lt (by omega)] at g4
    have g5 := wmul_fn (x := u) (y := y) (by omega) (by omega)
    have g6 := wadd_fn (x := u * y) (y := r) (Nat.le_trans (zmul_len lqq ly rfl) (by decide)) (by omega)
    rw [eq] at g6
    have g7 := wcmp_fn (x := x) (y := x) (by omega) (by omega)
    rw [show cmpZ x x = 0 by unfold cmpZ; rw [if_neg (by omega), if_neg (by omega)]] at g7
    clear hu hr eq hx hy
    refine fn1N_of pl10 (by kernel_rfl) Tryd.call10 Tryd.func10 rfl (by kernel_rfl) rfl [.tmp 4] (by kernel_rfl) fun Q hQ => ?_
    generalize u * y = uy at *
    repeat (first | (refine callV0 (awake6_fn) rfl rfl ?_) | (refine callV0 (fx) rfl rfl ?_) | (refine callV0 (fy) rfl rfl ?_) | (refine callV0 (dv) rfl rfl ?_) | (refine callV0 (ab) rfl rfl ?_) | (refine callV0 (g1) rfl rfl ?_) | (refine callV0 (g2) rfl rfl ?_) | (refine callV0 (g3) rfl rfl ?_) | (refine callV0 (g4) rfl rfl ?_) | (refine callV0 (g5) rfl rfl ?_) | (refine callV0 (g6) rfl rfl ?_) | (refine callV0 (g7) rfl rfl ?_) | (simp (maxSteps := 1000000) (disch := (first | omega | (simp only [lnA, List.length_map, List.length_range, true_and, and_true]; (try omega); done) | fail)) only [go_sem, eq_self, decide_true, decide_false, List.append_eq, List.cons_append, List.nil_append, Int.reduceEq, Int.reduceToNat, Nat.reduceAdd, Nat.reduceMul, Nat.reduceEqDiff, ↓reduceIte]))
    exact endW [] hQ
end Go.Proofs.YtfkpfhjfjnnbbaaDoor
