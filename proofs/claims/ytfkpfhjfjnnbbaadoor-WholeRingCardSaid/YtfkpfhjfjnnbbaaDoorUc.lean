import Derived.Test.YtfkpfhjfjnnbbaaDoorUb
/-! WholeRing. -/
namespace Go.Proofs.YtfkpfhjfjnnbbaaDoor
open Go.Eng Go.Vx
set_option linter.unusedSimpArgs false
set_option linter.unusedVariables false
set_option maxRecDepth 100000
theorem cmpZ_eq (x : Int) : cmpZ x x = 0 := by unfold cmpZ; rw [if_neg (by omega), if_neg (by omega)]
theorem samez_fn {x y : Int} (hx : (wg x.natAbs).length ≤ 1000) (hy : (wg y.natAbs).length ≤ 1000) (h : x = y) : Fn1 Tryd.prog 58 [WV x, WV y] [] (.lit (.bool true)) [] := by
  subst h
  have c := wcmp_fn (x := x) (y := x) (by omega) (by omega)
  rw [cmpZ_eq] at c
  refine fn1N_of pl58 (by kernel_rfl) Tryd.call58 Tryd.func58 rfl (by kernel_rfl) rfl [.tmp 4] (by kernel_rfl) fun Q hQ => ?_
  repeat (first | (refine callV0 (c) rfl rfl ?_) | (simp (maxSteps := 1000000) (disch := (first | omega | (simp only [lnA, List.length_map, List.length_range, true_and, and_true]; (try omega); done) | fail)) only [go_sem, eq_self, decide_true, Int.reduceEq, Int.reduceToNat, Nat.reduceAdd, Nat.reduceMul, Nat.reduceEqDiff, ↓reduceIte]))
  exact endW [] hQ
set_option maxHeartbeats 16000000 in
theorem wholeRing_fn {P0 Q0 R0 : List Nat} {b c d : Bool} (hP0 : ∀ d ∈ P0, d < 18446744073709551616) (lP : P0.length ≤ 9223372036854775807) (hQ0 : ∀ d ∈ Q0, d < 18446744073709551616) (lQ : Q0.length ≤ 9223372036854775807) (hR0 : ∀ d ∈ R0, d < 18446744073709551616) (lR : R0.length ≤ 9223372036854775807) :
    Fn1 Tryd.prog 11 [.agg [.row 1 ((nl P0).map (ie .u64)), .lit (.bool b)], .agg [.row 1 ((nl Q0).map (ie .u64)), .lit (.bool c)], .agg [.row 1 ((nl R0).map (ie .u64)), .lit (.bool d)]] [] (.lit (.bool true)) [] := by
  obtain ⟨x, px, mx, hx, lx, lpx, lmx, fx⟩ := both6_of (b := b) hP0 lP
  obtain ⟨y, py, my, hy, ly, lpy, lmy, fy⟩ := both6_of (b := c) hQ0 lQ
  obtain ⟨z, pz, mz, hz, lz, lpz, lmz, fz⟩ := both6_of (b := d) hR0 lR
  clear hx hy hz lpx lmx lpy lmy lpz lmz
  have lxy : (wg (x + y).natAbs).length ≤ 6 := zadd_len lx ly rfl
  have lsxy : (wg (x - y).natAbs).length ≤ 6 := zsub_len lx ly rfl
  have lnx : (wg (-x).natAbs).length ≤ 5 := by rw [Int.natAbs_neg]; exact lx
  have w0 : (wg (0 : Int).natAbs).length ≤ 1 := wg_one (by decide)
  have lyz : (wg (y + z).natAbs).length ≤ 6 := zadd_len ly lz rfl
  have lxz : (wg (x * z).natAbs).length ≤ 10 := zmul_len lx lz rfl
  have lmyz : (wg (y * z).natAbs).length ≤ 10 := zmul_len ly lz rfl
  have lxyz : (wg ((x - y) * z).natAbs).length ≤ 11 := zmul_len lsxy lz rfl
  have ld : (wg (x * z - y * z).natAbs).length ≤ 11 := zsub_len lxz lmyz rfl
  have l1 : (wg (x + y - y).natAbs).length ≤ 7 := zsub_len lxy (Nat.le_trans ly (by decide)) rfl
  have l2 : (wg (x + -x).natAbs).length ≤ 6 := zadd_len lx lnx rfl
  have l3 : (wg (x + (y + z)).natAbs).length ≤ 7 := zadd_len (Nat.le_trans lx (by decide)) lyz rfl
  have l4 : (wg (x + y + z).natAbs).length ≤ 7 := zadd_len lxy (Nat.le_trans lz (by decide)) rfl
  have a1 := wadd_fn (x := x) (y := y) (by omega) (by omega)
  have a2 := wsub_fn (x := x + y) (y := y) (by omega) (by omega)
  have a3 := samez_fn (x := x + y - y) (y := x) (by omega) (by omega) (by omega)
  have b1 := wminus_fn (z := x) (by omega)
  have b2 := wadd_fn (x := x) (y := -x) (by omega) (by omega)
  have b3 := wof_fn (n := 0) (by decide) (by decide)
  have b4 := samez_fn (x := x + -x) (y := 0) (by omega) (by omega) (by omega)
  have c1 := wsub_fn (x := x) (y := y) (by omega) (by omega)
  have c2 := wmul_fn (x := x - y) (y := z) (by omega) (by omega)
  have c3 := wmul_fn (x := x) (y := z) (by omega) (by omega)
  have c4 := wmul_fn (x := y) (y := z) (by omega) (by omega)
  have c5 := wsub_fn (x := x * z) (y := y * z) (by omega) (by omega)
  have c6 := samez_fn (x := (x - y) * z) (y := x * z - y * z) (by omega) (by omega) (Int.sub_mul x y z)
  have d1 := wadd_fn (x := y) (y := z) (by omega) (by omega)
  have d2 := wadd_fn (x := x) (y := y + z) (by omega) (by omega)
  have d3 := wadd_fn (x := x + y) (y := z) (by omega) (by omega)
  have d4 := samez_fn (x := x + (y + z)) (y := x + y + z) (by omega) (by omega) (by omega)
  have e1 := wcmp_fn (x := x) (y := y) (by omega) (by omega)
  have e2 := wcmp_fn (x := y) (y := x) (by omega) (by omega)
  have e3 := wcmp_fn (x := x - y) (y := 0) (by omega) (by omega)
  have q2 : cmpZ y x = -cmpZ x y := by unfold cmpZ; repeat' split <;> omega
  have q3 : cmpZ (x - y) 0 = cmpZ x y := by unfold cmpZ; repeat' split <;> omega
  have hb : -1 ≤ cmpZ x y ∧ cmpZ x y ≤ 1 := by unfold cmpZ; repeat' split <;> omega
  rw [q2] at e2
  rw [q3] at e3
  have hnn : - -cmpZ x y = cmpZ x y := Int.neg_neg _
  generalize cmpZ x y = k at *
  obtain ⟨hk0, hk1⟩ := hb
  have hd : decide (k = - -k) = true := decide_eq_true (by omega)
  clear q2 q3 lx ly lz lxy lsxy lnx w0 lyz lxz lmyz lxyz ld l1 l2 l3 l4
  refine fn1N_of pl11 (by kernel_rfl) Tryd.call11 Tryd.func11 rfl (by kernel_rfl) rfl [.tmp 6] (by kernel_rfl) fun Q hQ => ?_
  generalize (x - y) * z = v1 at *
  generalize x * z - y * z = v2 at *
  generalize x * z = v3 at *
  generalize y * z = v4 at *
  generalize x - y = v5 at *
  generalize x + y - y = v6 at *
  generalize x + -x = v7 at *
  generalize -x = v8 at *
  generalize x + (y + z) = v9 at *
  generalize x + y + z = v10 at *
  generalize x + y = v11 at *
  generalize y + z = v12 at *
  repeat (first | (refine callV0 (awake6_fn) rfl rfl ?_) | (refine callV0 (fx) rfl rfl ?_) | (refine callV0 (fy) rfl rfl ?_) | (refine callV0 (fz) rfl rfl ?_) | (refine callV0 (a1) rfl rfl ?_) | (refine callV0 (a2) rfl rfl ?_) | (refine callV0 (a3) rfl rfl ?_) | (refine callV0 (b1) rfl rfl ?_) | (refine callV0 (b2) rfl rfl ?_) | (refine callV0 (b3) rfl rfl ?_) | (refine callV0 (b4) rfl rfl ?_) | (refine callV0 (c1) rfl rfl ?_) | (refine callV0 (c2) rfl rfl ?_) | (refine callV0 (c3) rfl rfl ?_) | (refine callV0 (c4) rfl rfl ?_) | (refine callV0 (c5) rfl rfl ?_) | (refine callV0 (c6) rfl rfl ?_) | (refine callV0 (d1) rfl rfl ?_) | (refine callV0 (d2) rfl rfl ?_) | (refine callV0 (d3) rfl rfl ?_) | (refine callV0 (d4) rfl rfl ?_) | (refine callV0 (e1) rfl rfl ?_) | (refine callV0 (e2) rfl rfl ?_) | (refine callV0 (e3) rfl rfl ?_) | (simp (maxSteps := 1000000) (disch := (first | omega | (simp only [lnA, List.length_map, List.length_range, true_and, and_true]; (try omega); done) | fail)) only [go_sem, eq_self, decide_true, decide_false, List.append_eq, List.cons_append, List.nil_append, hd, hnn, Int.reduceEq, Int.reduceToNat, Nat.reduceAdd, Nat.reduceMul, Nat.reduceEqDiff, ↓reduceIte]))
  exact endW [] hQ
end Go.Proofs.YtfkpfhjfjnnbbaaDoor
