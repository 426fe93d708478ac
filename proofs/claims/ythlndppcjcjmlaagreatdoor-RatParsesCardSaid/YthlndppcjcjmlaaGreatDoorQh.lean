import Derived.Test.YthlndppcjcjmlaaGreatDoorQc
import Derived.Test.YthlndppcjcjmlaaGreatDoorQg
/-! RatTells. -/
namespace Go.Proofs.YthlndppcjcjmlaaGreatDoor
open Go.Eng Go.Vx
set_option linter.unusedSimpArgs false
set_option linter.unusedVariables false
set_option maxRecDepth 100000
theorem cut_app {a c : List UInt8} (h : ∀ b ∈ a, b ≠ 47) : cutA (a ++ 47 :: c) = a ∧ cutB (a ++ 47 :: c) = c ∧ hasL (a ++ 47 :: c) = true := by
  induction a with
  | nil => exact ⟨by simp [cutA], by simp [cutB], by simp [hasL]⟩
  | cons b a ih =>
    obtain ⟨h1, h2, h3⟩ := ih (fun x hx => h x (by simp [hx]))
    have hb : (b != 47) = true := by simpa using h b (by simp)
    refine ⟨?_, ?_, ?_⟩
    · unfold cutA at *
      rw [List.cons_append, List.takeWhile_cons, if_pos hb, h1]
    · unfold cutB at *
      rw [List.cons_append, List.dropWhile_cons, if_pos hb, h2]
    · unfold hasL at *
      rw [List.cons_append, List.any_cons, h3, Bool.or_true]
theorem cut_none {a : List UInt8} (h : ∀ b ∈ a, b ≠ 47) : cutA a = a ∧ hasL a = false := by
  have hh : hasL a = false := by
    unfold hasL
    rw [List.any_eq_false]
    intro b hb
    simpa using h b hb
  exact ⟨((ix_cut a).1 hh).2, hh⟩
theorem zS_no47 (z : Int) : ∀ b ∈ zS z, b ≠ 47 := fun b hb e => by
  subst e
  unfold zS at hb
  split at hb
  · rcases List.mem_cons.1 hb with h | h
    · exact absurd h (by decide)
    · exact absurd (decS_dig 47 h) (by decide)
  · exact absurd (decS_dig 47 hb) (by decide)
theorem rparse_qS {x : Rat} (hx : RS 80 x) : Fn1 Tryz.prog 20 [.lit (.string (bs (qS x)))] [] (.tup [RV x, .lit (.int .i64 0)]) [] := by
  have l1 := zS_len hx.1
  have l2 := decS_wg hx.2
  have ql : (qS x).length ≤ 9223372036854775807 := by
    unfold qS
    rw [List.length_append]
    split <;> simp <;> omega
  have c := cutl_fn ql
  have w := wparse_zS (z := x.num) (by have := hx.1; omega)
  have t := rtxt_fn (hx.mono (show 80 ≤ 5000 by decide))
  by_cases h : x.den = 1
  · have hq : qS x = zS x.num := by unfold qS; rw [if_pos h, List.append_nil]
    obtain ⟨n1, n2⟩ := cut_none (zS_no47 x.num)
    rw [hq, n1, n2, if_neg (by decide)] at c
    have hr : RV x = .agg [.row 1 ((nl (wg x.num.natAbs)).map (ie .u64)), .lit (.bool (decide (x.num < 0))), .row 1 []] := by
      unfold RV
      rw [h, show 1 - 1 = 0 from rfl, wg_zero]
      rfl
    rw [hq, hr]
    generalize zS x.num = s at *
    refine fn1N_of pl20 (by kernel_rfl) Tryz.call20 Tryz.func20 rfl (by kernel_rfl) rfl [.cell 2 31, .tmp 3] (by kernel_rfl) fun Q hQ => ?_
    repeat (first | (refine callV0 (c) rfl rfl ?_) | (refine callV0 (w) rfl rfl ?_) | (simp (maxSteps := 1000000) (disch := (first | omega | (simp only [lnA, List.length_map, List.length_range, true_and, and_true]; (try omega); done) | fail)) only [go_sem, Int.reduceEq, Int.reduceToNat, Nat.reduceAdd, Nat.reduceMul, Nat.reduceEqDiff, ↓reduceIte]))
    exact endW [] hQ
  · have hq : qS x = zS x.num ++ 47 :: decS x.den := by unfold qS; rw [if_neg h]
    obtain ⟨n1, n2, n3⟩ := cut_app (a := zS x.num) (c := decS x.den) (zS_no47 x.num)
    rw [← hq] at n1 n2 n3
    rw [n1, n2, n3, if_pos rfl] at c
    have np := nparse_decS (n := x.den) (by have := hx.2; omega)
    have wm := wmake_fn (b := false) (n := x.den) (by have := hx.2; omega)
    rw [show sg false x.den = (x.den : Int) from rfl] at wm
    have fr := rfrac_fn (p := x.num) (q := (x.den : Int)) (by have := x.den_nz; omega) (by have := hx.1; omega) (by rw [Int.natAbs_natCast]; have := hx.2; omega)
    rw [div_mk, Rat.mkRat_self] at fr
    clear hq n1 n2 n3
    generalize qS x = s at *
    generalize zS x.num = s1 at *
    generalize decS x.den = s2 at *
    refine fn1N_of pl20 (by kernel_rfl) Tryz.call20 Tryz.func20 rfl (by kernel_rfl) rfl [.cell 2 31, .tmp 3] (by kernel_rfl) fun Q hQ => ?_
    repeat (first | (refine callV0 (c) rfl rfl ?_) | (refine callV0 (w) rfl rfl ?_) | (refine callV0 (np) rfl rfl ?_) | (refine callV0 (wm) rfl rfl ?_) | (refine callV0 (fr) rfl rfl ?_) | (refine callV0 (t) rfl rfl ?_) | (simp (maxSteps := 1000000) (disch := (first | omega | (simp only [lnA, List.length_map, List.length_range, true_and, and_true]; (try omega); done) | fail)) only [go_sem, eq_self, decide_true, Int.reduceEq, Int.reduceToNat, Nat.reduceAdd, Nat.reduceMul, Nat.reduceEqDiff, ↓reduceIte]))
    exact endW [] hQ
theorem must_fn {p : Int} {q : Nat} (hq : q ≠ 0) (h1 : (wg p.natAbs).length ≤ 1000) (h2 : (wg q).length ≤ 1000) : Fn1 Tryz.prog 22 [WV p, NV q] [] (RV (mkRat p q)) [] := by
  have wm := wmake_fn (b := false) (n := q) (by omega)
  rw [show sg false q = (q : Int) from rfl] at wm
  have fr := rfrac_fn (p := p) (q := (q : Int)) (by omega) (by omega) (by rw [Int.natAbs_natCast]; omega)
  rw [div_mk] at fr
  refine fn1N_of pl22 (by kernel_rfl) Tryz.call22 Tryz.func22 rfl (by kernel_rfl) rfl [.cell 4 31] (by kernel_rfl) fun Q hQ => ?_
  repeat (first | (refine callV0 (wm) rfl rfl ?_) | (refine callV0 (fr) rfl rfl ?_) | (simp (maxSteps := 1000000) (disch := (first | omega | (simp only [lnA, List.length_map, List.length_range, true_and, and_true]; (try omega); done) | fail)) only [go_sem, Int.reduceEq, Int.reduceToNat, Nat.reduceAdd, Nat.reduceMul, Nat.reduceEqDiff, ↓reduceIte]))
  exact endW [] hQ
theorem mkRat_1 (z : Int) : mkRat z 1 = (z : Rat) := by
  rw [← div_mk]
  show (z : Rat) / ((1 : Int) : Rat) = z
  have h1 : ((1 : Int) : Rat) ≠ 0 := by decide +kernel
  have := Rat.mul_div_cancel (a := (z : Rat)) h1
  rw [show ((1 : Int) : Rat) = 1 from rfl, Rat.mul_one] at this
  exact this
theorem low_facts (x : Rat) : 0 ≤ cmpQ (x - (x.floor : Rat)) 0 ∧ cmpQ (x - (x.floor : Rat)) 1 = -1 ∧ (decide (cmpQ (x - (x.floor : Rat)) 0 = 0) = decide (x.den = 1)) := by
  have h1 := Rat.floor_le x
  have h2 := Rat.lt_floor_add_one x
  have a0 : ¬ (x - (x.floor : Rat)) < 0 := fun h => by
    have := (Rat.add_lt_add_right (c := (x.floor : Rat))).2 h
    rw [Rat.sub_add_cancel, Rat.zero_add] at this
    exact absurd h1 (Rat.not_le.2 this)
  have a1 : (x - (x.floor : Rat)) < 1 := by
    have e : x < 1 + (x.floor : Rat) := by
      rw [Rat.add_comm]
      have e2 : ((x.floor + 1 : Int) : Rat) = (x.floor : Rat) + 1 := by rw [Rat.intCast_add]; rfl
      rw [← e2]
      exact h2
    refine (Rat.add_lt_add_right (c := (x.floor : Rat))).1 ?_
    rw [Rat.sub_add_cancel]
    exact e
  refine ⟨?_, ?_, ?_⟩
  · unfold cmpQ
    rw [if_neg a0]
    split <;> decide
  · unfold cmpQ
    rw [if_pos a1]
  · congr 1
    refine propext ⟨fun h => ?_, fun h => ?_⟩
    · have hx : x = (x.floor : Rat) := by
        unfold cmpQ at h
        rw [if_neg a0] at h
        have hn : ¬ 0 < x - (x.floor : Rat) := fun hc => by rw [if_pos hc] at h; cases h
        have h3 : x - (x.floor : Rat) = 0 := Rat.le_antisymm (Rat.not_lt.1 hn) (Rat.not_lt.1 a0)
        have h4 := congrArg (· + (x.floor : Rat)) h3
        simp only [Rat.sub_add_cancel, Rat.zero_add] at h4
        exact h4
      rw [hx, Rat.den_intCast]
    · have hx : x = (x.num : Rat) := by
        conv => lhs; rw [← Rat.mkRat_self x]
        rw [h, mkRat_1]
      have hf : (x.floor : Rat) = x := by
        conv => rhs; rw [hx]
        conv => lhs; rw [hx]
        rw [Rat.floor_intCast]
      rw [hf, Rat.sub_self]
      exact cmpQ_eq0 0
set_option maxHeartbeats 16000000 in
theorem ratTells_fn {P0 Q0 : List Nat} {b : Bool} (hP0 : ∀ d ∈ P0, d < 18446744073709551616) (lP : P0.length ≤ 9223372036854775807) (hQ0 : ∀ d ∈ Q0, d < 18446744073709551616) (lQ : Q0.length ≤ 9223372036854775807) :
    Fn1 Tryz.prog 4 [.agg [.row 1 ((nl P0).map (ie .u64)), .row 1 ((nl Q0).map (ie .u64)), .lit (.bool b)]] [] (.lit (.bool true)) [] := by
  obtain ⟨x, p, m, d, hd, hx, sx, lp, lm, ld, fx⟩ := both7_of (b := b) hP0 lP hQ0 lQ
  have mx := sx.mono (show 2 ≤ 400000 by decide)
  have t := rtxt_fn (sx.mono (show 2 ≤ 5000 by decide))
  have pr := rparse_qS (sx.mono (show 2 ≤ 80 by decide))
  have fl := rfloor_fn mx
  have o1 := of1_fn (x := 1) (by decide)
  have l1 : (wg 1).length ≤ 1 := wg_one (by decide)
  have flen : (wg x.floor.natAbs).length ≤ 3 := by
    rw [Rat.floor_def]
    have := Int.natAbs_ediv_le_natAbs x.num (x.den : Int)
    exact Nat.le_trans (wmono_len this) (Nat.le_trans sx.1 (by decide))
  have mu := must_fn (p := x.floor) (q := 1) (by decide) (by omega) (by omega)
  rw [mkRat_1] at mu
  have sf : RS 3 (x.floor : Rat) := RS_int flen (by decide)
  have lo := rsub_fn mx (sf.mono (show 3 ≤ 400000 by decide))
  have sl := (RS_sub sx sf).mono (show 2 + 3 + 1 ≤ 400000 by decide)
  have nu := rnum_fn (x := x)
  have de := rden_fn (x := x) (by have := sx.2; omega)
  have wm := wmake_fn (b := false) (n := x.den) (by have := sx.2; omega)
  rw [show sg false x.den = (x.den : Int) from rfl] at wm
  have fr := rfrac_fn (p := x.num) (q := (x.den : Int)) (by have := x.den_nz; omega) (by have := sx.1; omega) (by rw [Int.natAbs_natCast]; have := sx.2; omega)
  rw [div_mk, Rat.mkRat_self] at fr
  have ab := wabs_fn (z := x.num)
  have gc := ngcd_fn (a := x.num.natAbs) (b := x.den) (by have := sx.1; omega) (by have := sx.2; omega)
  rw [show Nat.gcd x.num.natAbs x.den = 1 from x.reduced] at gc
  have t1 := ntext_fn (n := 1) (by omega)
  rw [zS_lit 1 (by decide), show UInt8.ofNat (48 + 1) = 49 from rfl] at t1
  have i1 := is7_fn hd hx (sx.mono (by decide)) (by omega) (by omega) (by omega)
  have c1 := rcmp_fn mx mx
  rw [cmpQ_eq0] at c1
  obtain ⟨f1, f2, f3⟩ := low_facts x
  have r0 := rof_fn (n := 0) (by decide) (by decide)
  have r1 := rof_fn (n := 1) (by decide) (by decide)
  rw [show ((0 : Int) : Rat) = 0 from rfl] at r0
  rw [show ((1 : Int) : Rat) = 1 from rfl] at r1
  have s0 : RS 1 (0 : Rat) := RS_small (z := 0) (by decide)
  have s1 : RS 1 (1 : Rat) := RS_small (z := 1) (by decide)
  have c2 := rcmp_fn sl (s0.mono (show 1 ≤ 400000 by decide))
  have c3 := rcmp_fn sl (s1.mono (show 1 ≤ 400000 by decide))
  rw [f2] at c3
  have wh := rwhole_fn (sx.mono (show 2 ≤ 1000000 by decide))
  clear f2 hx sf sl flen
  obtain ⟨k, hk⟩ : ∃ k, cmpQ (x - (x.floor : Rat)) 0 = k := ⟨_, rfl⟩
  rw [hk] at c2 f1 f3
  have g1 := decide_eq_true f1
  obtain ⟨w1, hw1⟩ : ∃ w1, decide (x.den = 1) = w1 := ⟨_, rfl⟩
  rw [hw1] at wh f3
  clear hk hw1
  generalize qS x = s at *
  generalize x - (x.floor : Rat) = low at *
  generalize (0 : Rat) = q0 at *
  generalize (1 : Rat) = q1 at *
  generalize (x.floor : Rat) = fq at *
  generalize x.floor = fz at *
  refine fn1N_of pl4 (by kernel_rfl) Tryz.call4 Tryz.func4 rfl (by kernel_rfl) rfl [.tmp 2] (by kernel_rfl) fun Q hQ => ?_
  repeat (first | (refine callV0 (awake7_fn) rfl rfl ?_) | (refine callV0 (fx) rfl rfl ?_) | (refine callV0 (t) rfl rfl ?_) | (refine callV0 (pr) rfl rfl ?_) | (refine callV0 (fl) rfl rfl ?_) | (refine callV0 (mu) rfl rfl ?_) | (refine callV0 (lo) rfl rfl ?_) | (refine callV0 (nu) rfl rfl ?_) | (refine callV0 (de) rfl rfl ?_) | (refine callV0 (wm) rfl rfl ?_) | (refine callV0 (fr) rfl rfl ?_) | (refine callV0 (ab) rfl rfl ?_) | (refine callV0 (gc) rfl rfl ?_) | (refine callV0 (t1) rfl rfl ?_) | (refine callV0 (i1) rfl rfl ?_) | (refine callV0 (c1) rfl rfl ?_) | (refine callV0 (r0) rfl rfl ?_) | (refine callV0 (r1) rfl rfl ?_) | (refine callV0 (c2) rfl rfl ?_) | (refine callV0 (c3) rfl rfl ?_) | (refine callV0 (wh) rfl rfl ?_) | (simp (maxSteps := 1000000) (disch := (first | omega | (simp only [lnA, List.length_map, List.length_range, true_and, and_true]; (try omega); done) | fail)) only [go_sem, eq_self, decide_true, decide_false, List.append_eq, List.cons_append, List.nil_append, beq_self_eq_true, g1, f3, Int.reduceEq, Int.reduceToNat, Nat.reduceAdd, Nat.reduceMul, Nat.reduceEqDiff, ↓reduceIte]))
  refine callW [] [5] (o1) ?_
  repeat (first | (refine callV0 (awake7_fn) rfl rfl ?_) | (refine callV0 (fx) rfl rfl ?_) | (refine callV0 (t) rfl rfl ?_) | (refine callV0 (pr) rfl rfl ?_) | (refine callV0 (fl) rfl rfl ?_) | (refine callV0 (mu) rfl rfl ?_) | (refine callV0 (lo) rfl rfl ?_) | (refine callV0 (nu) rfl rfl ?_) | (refine callV0 (de) rfl rfl ?_) | (refine callV0 (wm) rfl rfl ?_) | (refine callV0 (fr) rfl rfl ?_) | (refine callV0 (ab) rfl rfl ?_) | (refine callV0 (gc) rfl rfl ?_) | (refine callV0 (t1) rfl rfl ?_) | (refine callV0 (i1) rfl rfl ?_) | (refine callV0 (c1) rfl rfl ?_) | (refine callV0 (r0) rfl rfl ?_) | (refine callV0 (r1) rfl rfl ?_) | (refine callV0 (c2) rfl rfl ?_) | (refine callV0 (c3) rfl rfl ?_) | (refine callV0 (wh) rfl rfl ?_) | (simp (maxSteps := 1000000) (disch := (first | omega | (simp only [lnA, List.length_map, List.length_range, true_and, and_true]; (try omega); done) | fail)) only [go_sem, eq_self, decide_true, decide_false, List.append_eq, List.cons_append, List.nil_append, beq_self_eq_true, g1, f3, Int.reduceEq, Int.reduceToNat, Nat.reduceAdd, Nat.reduceMul, Nat.reduceEqDiff, ↓reduceIte]))
  exact endW [] hQ
end Go.Proofs.YthlndppcjcjmlaaGreatDoor
