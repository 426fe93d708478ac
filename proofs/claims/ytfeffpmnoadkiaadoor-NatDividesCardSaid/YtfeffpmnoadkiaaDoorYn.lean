import Derived.Test.YtfeffpmnoadkiaaDoorYl
import Derived.Test.YtfeffpmnoadkiaaDoorD3
/-! NatDivides. -/
namespace Go.Proofs.YtfeffpmnoadkiaaDoor
open Go.Eng Go.Vx
set_option linter.unusedSimpArgs false
set_option linter.unusedVariables false
set_option maxRecDepth 100000
set_option maxHeartbeats 4000000 in
theorem natDivides_fn {P0 Q0 : List Nat} (hP0 : ∀ d ∈ P0, d < 18446744073709551616) (hQ0 : ∀ d ∈ Q0, d < 18446744073709551616) (lP : P0.length ≤ 9223372036854775807) (lQ : Q0.length ≤ 9223372036854775807) :
    Fn1 Tryd.prog 7 [.row 1 ((nl P0).map (ie .u64)), .row 1 ((nl Q0).map (ie .u64))] [] (.lit (.bool true)) [] := by
  obtain ⟨fp, hP, hPl⟩ := few_of (k := 7) hP0 lP (by decide)
  obtain ⟨fq, hQ', hQl⟩ := few_of (k := 5) hQ0 lQ (by decide)
  generalize P0.take 7 = W1 at *
  generalize Q0.take 5 = W2 at *
  obtain ⟨a, oa, va, la, da, -⟩ := both_of hP hPl (by decide)
  obtain ⟨b, ob, vb, lb, db, -⟩ := both_of hQ' hQl (by decide)
  have i3 := is5_fn (n := a) (by omega) (by omega)
  have i4 := is5_fn (n := b) (by omega) (by omega)
  have z := zero_fn (n := 0) (by rw [show wg 0 = [] from dgB_zero _]; decide)
  refine fn1_of pl7 (by kernel_rfl) Tryd.call7 Tryd.func7 rfl (by kernel_rfl) rfl [.tmp 4] (by kernel_rfl) fun Q hQ => ?_
  by_cases hb : b = 0
  · subst hb
    have s := ndiv0_fn (a := a) (by omega)
    have e : (dg 0).length = 0 := by rw [dg_zero]; rfl
    repeat (first | (refine callV0 (awake5_fn) rfl rfl ?_) | (refine callV0 (fp) rfl rfl ?_) | (refine callV0 (fq) rfl rfl ?_) | (refine callV0 (oa) rfl rfl ?_) | (refine callV0 (ob) rfl rfl ?_) | (refine callV0 (va) rfl rfl ?_) | (refine callV0 (vb) rfl rfl ?_) | (refine callV0 (i3) rfl rfl ?_) | (refine callV0 (i4) rfl rfl ?_) | (refine callV0 (z) rfl rfl ?_) | (refine callV0 (s) rfl rfl ?_) | (simp (maxSteps := 1000000) (disch := (first | omega | (simp only [lnA, List.length_map, List.length_range, true_and, and_true]; (try omega); done) | fail)) only [go_sem, eq_self, decide_true, decide_false, List.append_eq, List.cons_append, List.nil_append, List.length_map, nl_len, e, Int.reduceEq, Int.reduceToNat, Nat.reduceAdd, Nat.reduceMul, Nat.reduceEqDiff, ↓reduceIte]))
    exact endW [] hQ
  · have s := ndiv_fn (a := a) (b := b) hb (by omega) (by omega)
    have t := ldiv_fn (a := a) (b := b) (by omega) (by omega) (by omega)
    have eq := Nat.div_add_mod a b
    have hr := Nat.mod_lt a (show 0 < b by omega)
    have q1 : a / b ≤ a := Nat.div_le_self a b
    have q2 : a % b ≤ a := Nat.mod_le a b
    rw [Nat.mul_comm] at eq
    obtain ⟨q, hq⟩ : ∃ q, q = a / b := ⟨_, rfl⟩
    obtain ⟨r, hr'⟩ : ∃ r, r = a % b := ⟨_, rfl⟩
    rw [← hq] at s t eq q1
    rw [← hr'] at s t eq hr q2
    clear hq hr'
    have lq := wmono_len q1
    have lr := wmono_len q2
    have dq := dg_mono q1
    have dr := dg_mono q2
    have m1 := wmul_len q b
    have i1 := is5_fn (n := q) (by omega) (by omega)
    have i2 := is5_fn (n := r) (by omega) (by omega)
    have c1 := ncmp_fn (a := r) (b := b) (by omega) (by omega)
    rw [cmpI_lt hr] at c1
    have c2 := nmul_fn (a := q) (b := b) (by omega) (by omega)
    have c3 := nadd_fn (a := q * b) (b := r) (by omega) (by omega)
    rw [eq] at c3
    have c4 := ncmp_fn (a := a) (b := a) (by omega) (by omega)
    rw [cmpI_eq] at c4
    have e : 0 < (dg b).length := by
      rcases Nat.eq_zero_or_pos (dg b).length with h | h
      · exfalso
        have h' : dg b = [] := List.length_eq_zero_iff.1 h
        have : valB 10000 (dg b) = b := dgB_val (by decide) b
        rw [h'] at this
        exact hb this.symm
      · exact h
    repeat (first | (refine callV0 (awake5_fn) rfl rfl ?_) | (refine callV0 (fp) rfl rfl ?_) | (refine callV0 (fq) rfl rfl ?_) | (refine callV0 (oa) rfl rfl ?_) | (refine callV0 (ob) rfl rfl ?_) | (refine callV0 (va) rfl rfl ?_) | (refine callV0 (vb) rfl rfl ?_) | (refine callV0 (i1) rfl rfl ?_) | (refine callV0 (i2) rfl rfl ?_) | (refine callV0 (i3) rfl rfl ?_) | (refine callV0 (i4) rfl rfl ?_) | (refine callV0 (z) rfl rfl ?_) | (refine callV0 (s) rfl rfl ?_) | (refine callV0 (t) rfl rfl ?_) | (refine callV0 (c1) rfl rfl ?_) | (refine callV0 (c2) rfl rfl ?_) | (refine callV0 (c3) rfl rfl ?_) | (refine callV0 (c4) rfl rfl ?_) | (simp (maxSteps := 1000000) (disch := (first | omega | (simp only [lnA, List.length_map, List.length_range, true_and, and_true]; (try omega); done) | fail)) only [go_sem, eq_self, decide_true, decide_false, List.append_eq, List.cons_append, List.nil_append, List.length_map, nl_len, Int.reduceEq, Int.reduceToNat, Nat.reduceAdd, Nat.reduceMul, Nat.reduceEqDiff, ↓reduceIte]))
    exact endW [] hQ
end Go.Proofs.YtfeffpmnoadkiaaDoor
