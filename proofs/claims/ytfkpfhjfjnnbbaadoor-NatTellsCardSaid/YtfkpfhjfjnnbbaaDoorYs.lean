import Derived.Test.YtfkpfhjfjnnbbaaDoorYr
import Derived.Test.YtfkpfhjfjnnbbaaDoorNi
import Derived.Test.YtfkpfhjfjnnbbaaDoorDh
import Derived.Test.YtfkpfhjfjnnbbaaDoorD3
/-! NatTells. -/
namespace Go.Proofs.YtfkpfhjfjnnbbaaDoor
open Go.Eng Go.Vx
set_option linter.unusedSimpArgs false
set_option linter.unusedVariables false
set_option maxRecDepth 100000
theorem nwords_fn {v : Nat} (hv : (wg v).length ≤ 4000000) (h : v ≠ 0) : Fn1 Tryd.prog 33 [NV v] [] (.sl 0 1 0 (wg v).length) [some (.row 1 ((nl (wg v)).map (ie .u64)))] := by
  refine fn1N_of pl33 (by kernel_rfl) Tryd.call33 Tryd.func33 rfl (by kernel_rfl) rfl [.tmp 2] (by kernel_rfl) fun Q hQ => ?_
  have hnl := nl_len (wg v)
  have hc := cloneNO_fn (B := wg v) hv (fun e => h (wg_nil.1 e))
  simp (maxSteps := 1000000) (disch := (first | omega | (simp only [lnA, List.length_map, List.length_range, true_and, and_true]; (try omega); done) | fail)) only [go_sem, Int.reduceEq, Int.reduceToNat, Nat.reduceAdd, Nat.reduceMul, Nat.reduceEqDiff, ↓reduceIte]
  refine callF (hc) ?_
  simp (maxSteps := 1000000) (disch := (first | omega | (simp only [lnA, List.length_map, List.length_range, true_and, and_true]; (try omega); done) | fail)) only [go_sem, Int.reduceEq, Int.reduceToNat, Nat.reduceAdd, Nat.reduceMul, Nat.reduceEqDiff, ↓reduceIte]
  exact endW [some 1] hQ
theorem nwords0_fn : Fn1 Tryd.prog 33 [NV 0] [] (.row 1 []) [] := by
  have hc := cloneN_fn (B := []) (by decide)
  rw [nl_nil, List.map_nil] at hc
  rw [NV_zero]
  refine fn1N_of pl33 (by kernel_rfl) Tryd.call33 Tryd.func33 rfl (by kernel_rfl) rfl [.tmp 2] (by kernel_rfl) fun Q hQ => ?_
  simp (maxSteps := 1000000) (disch := (first | omega | (simp only [lnA, List.length_map, List.length_range, true_and, and_true]; (try omega); done) | fail)) only [go_sem, Int.reduceEq, Int.reduceToNat, Nat.reduceAdd, Nat.reduceMul, Nat.reduceEqDiff, ↓reduceIte]
  refine callV0 (hc) rfl rfl ?_
  simp (maxSteps := 1000000) (disch := (first | omega | (simp only [lnA, List.length_map, List.length_range, true_and, and_true]; (try omega); done) | fail)) only [go_sem, Int.reduceEq, Int.reduceToNat, Nat.reduceAdd, Nat.reduceMul, Nat.reduceEqDiff, ↓reduceIte]
  exact endW [] hQ
/-- A word and one more. -/
def up1 (d : Nat) : Nat := (d + 1) % 18446744073709551616
theorem up1_wrap (d : Nat) : IntKind.u64.wrap ((d : Int) + 1) = ((up1 d : Nat) : Int) := by
  unfold up1
  simp [IntKind.wrap, IntKind.bits, IntKind.signed]
theorem takeSn {l : List Nat} {i : Nat} (h : i < l.length) : l.take (i + 1) = l.take i ++ [l.getD i 0] := by
  rw [List.take_succ_eq_append_getElem h]
  simp [List.getD_eq_getElem?_getD, h]
/-- The words before the trim's end are the number's, the others 0. -/
theorem trim_getD {W : List Nat} {n v : Nat} (ht : W.take n = wg v) (h0 : ∀ i, n ≤ i → i < W.length → W.getD i 0 = 0) (k : Nat) : W.getD k 0 = (wg v).getD k 0 := by
  rw [← ht]
  by_cases h : k < n
  · simp [List.getD_eq_getElem?_getD, List.getElem?_take, h]
  · have e : (W.take n).getD k 0 = 0 := getD_out (by rw [List.length_take]; omega)
    rw [e]
    by_cases h2 : k < W.length
    · exact h0 k (by omega) h2
    · exact getD_out (by omega)
set_option maxHeartbeats 8000000 in
theorem natTells_fn {P0 : List Nat} {at0 : Int} (hP0 : ∀ d ∈ P0, d < 18446744073709551616) (lP : P0.length ≤ 9223372036854775807) (n0 : -9223372036854775808 ≤ at0) (n1 : at0 ≤ 9223372036854775807) :
    Fn1 Tryd.prog 6 [.row 1 ((nl P0).map (ie .u64)), .lit (.int .i64 at0)] [] (.lit (.bool true)) [] := by
  obtain ⟨fp, hP, hPl⟩ := few_of (k := 8) hP0 lP (by decide)
  generalize P0.take 8 = W at *
  have oa := of_fn hP (by omega)
  have va := lof_fn hP (by omega)
  have la := val_len hP hPl
  have da := wv_len hP
  have ba := val_bl hP hPl
  have htr := fun n h1 h2 h3 => dgB_trim (B := 18446744073709551616) (l := W) (n := n) (by decide) hP h1 h2 h3
  unfold wv at va da
  obtain ⟨v, hv⟩ : ∃ v, valB 18446744073709551616 W = v := ⟨_, rfl⟩
  rw [hv] at oa va la da ba htr
  have i1 := is5_fn (n := v) (by omega) (by omega)
  have b1 := bits_fn (n := v) (by omega)
  have b2 := lbits_fn (a := v) (by omega) (by omega)
  have zz := zero_fn (n := v) (by omega)
  obtain ⟨M, hM⟩ : ∃ M : Nat, max 0 at0 = (M : Int) := ⟨(max 0 at0).toNat, by omega⟩
  have ni := nint_fn (n := v) (M := M) (m := at0) hM (by omega) (by omega)
  have hnl := nl_len W
  refine fn1N_of pl6 (by kernel_rfl) Tryd.call6 Tryd.func6 rfl (by kernel_rfl) rfl [.tmp 4] (by kernel_rfl) fun Q hQ => ?_
  repeat (first | (refine callV0 (awake5_fn) rfl rfl ?_) | (refine callV0 (fp) rfl rfl ?_) | (refine callV0 (oa) rfl rfl ?_) | (refine callV0 (va) rfl rfl ?_) | (simp (maxSteps := 1000000) (disch := (first | omega | (simp only [lnA, List.length_map, List.length_range, true_and, and_true]; (try omega); done) | fail)) only [go_sem, eq_self, decide_true, decide_false, List.append_eq, List.cons_append, List.nil_append, Int.reduceEq, Int.reduceToNat, Nat.reduceAdd, Nat.reduceMul, Nat.reduceEqDiff, ↓reduceIte]))
  refine LoopV_of (X := Nat) (st := fun n => ([(0, .row 1 ((nl W).map (ie .u64))), (1, .lit (.int .i64 at0)), (5, .ref 0 0 0 0), (6, DV v), (7, .lit (.int .i64 (n : Int)))], [some (.cells [.row 1 ((nl (wg v)).map (ie .u64))])]))
    (inv := fun n => n ≤ W.length ∧ ∀ i, n ≤ i → i < W.length → W.getD i 0 = 0) (m := fun n => n) W.length [some 0] rfl (by simp (disch := (first | omega | (simp only [lnA, List.length_map, List.length_range, true_and, and_true]; (try omega); done) | fail)) only [go_sem, Int.reduceEq, Int.reduceToNat, Nat.reduceAdd, Nat.reduceMul, Nat.reduceEqDiff, ↓reduceIte, true_and, and_true, and_self, List.drop_zero, List.take_length, Nat.le_refl, V.lit.injEq, Value.int.injEq, Value.bool.injEq]; try (first | omega | (simp; done) | (simp; omega))) (by simp (disch := (first | omega | (simp only [lnA, List.length_map, List.length_range, true_and, and_true]; (try omega); done) | fail)) only [go_sem, Int.reduceEq, Int.reduceToNat, Nat.reduceAdd, Nat.reduceMul, Nat.reduceEqDiff, ↓reduceIte, true_and, and_true, and_self, List.drop_zero, List.take_length, Nat.le_refl, V.lit.injEq, Value.int.injEq, Value.bool.injEq]; try (first | omega | (simp; done) | (simp; omega))) ⟨by omega, fun i h1 h2 => by omega⟩ ?_
  rintro n ⟨hn, h0⟩
  by_cases hgo : 0 < n ∧ W.getD (n - 1) 0 = 0
  · obtain ⟨k, rfl⟩ : ∃ k, n = k + 1 := ⟨n - 1, by omega⟩
    obtain ⟨-, hz⟩ := hgo
    rw [Nat.add_sub_cancel] at hz
    have hg := nl_get W k
    have hk : (((k + 1 : Nat) : Int) - 1).toNat = k := by omega
    simp (maxSteps := 1000000) (disch := (first | omega | (simp only [lnA, List.length_map, List.length_range, true_and, and_true]; (try omega); done) | fail)) only [go_sem, hk, hg, hz, Int.reduceEq, Int.reduceToNat, Nat.reduceAdd, Nat.reduceMul, Nat.reduceEqDiff, ↓reduceIte]
    refine nextW k [some 0] ⟨by omega, fun i h1 h2 => ?_⟩ (by omega)
    rcases Nat.eq_or_lt_of_le h1 with e | e
    · rw [← e]; exact hz
    · exact h0 i e h2
  have ht : W.take n = wg v := htr n hn h0 (by
    by_cases h : n = 0
    · exact .inl h
    · exact .inr (fun e => hgo ⟨by omega, e⟩))
  have hlen : (wg v).length = n := by rw [← ht, List.length_take]; omega
  have hnw := nl_len (wg v)
  have hgd := trim_getD ht h0
  -- the bit
  have hbit : (at0 < 0 ∧ Fn1 Tryd.prog 30 [NV v, .lit (.int .i64 at0)] [] (.lit (.bool false)) []) ∨
      (∃ I : Nat, at0 = (I : Int) ∧ W.length ≤ I / 64 ∧ Fn1 Tryd.prog 30 [NV v, .lit (.int .i64 at0)] [] (.lit (.bool false)) []) ∨
      (∃ (I x : Nat) (b : Bool), at0 = (I : Int) ∧ I / 64 < W.length ∧ (nl W).getD (I / 64) 0 = (x : Int) ∧ x < 18446744073709551616 ∧ decide (((x / 2 ^ (I % 64) : Nat) : Int) % 2 = 1) = b ∧ Fn1 Tryd.prog 30 [NV v, .lit (.int .i64 at0)] [] (.lit (.bool b)) []) := by
    by_cases hneg : at0 < 0
    · exact .inl ⟨hneg, nbitE_fn hneg⟩
    obtain ⟨I, rfl⟩ := Int.eq_ofNat_of_zero_le (show 0 ≤ at0 by omega)
    have hb := nbit_fn (v := v) (I := I) (by omega) (by omega)
    rw [← wg_bit, ← hgd] at hb
    right
    by_cases hI : I / 64 < W.length
    · refine .inr ⟨I, W.getD (I / 64) 0, _, rfl, hI, nl_get W _, getD_ltB (by decide) hP _, ?_, hb⟩
      congr 1
      refine propext ?_
      omega
    · rw [getD_out (by omega), Nat.zero_div, decide_eq_false (by decide)] at hb
      exact .inl ⟨I, rfl, by omega, hb⟩
  by_cases hv0 : v = 0
  · subst hv0
    rw [wg_zero, List.length_nil] at hlen
    subst hlen
    rw [decide_eq_true rfl] at zz
    rw [Nat.zero_min] at ni
    have ww := nwords0_fn
    repeat (first | (refine callV0 (ww) rfl rfl ?_) | (refine callV0 (b1) rfl rfl ?_) | (refine callV0 (b2) rfl rfl ?_) | (refine callV0 (zz) rfl rfl ?_) | (refine callV0 (i1) rfl rfl ?_) | (simp (maxSteps := 1000000) (disch := (first | omega | (simp only [lnA, List.length_map, List.length_range, true_and, and_true]; (try omega); done) | fail)) only [go_sem, eq_self, decide_true, decide_false, List.append_eq, List.cons_append, List.nil_append, Int.reduceEq, Int.reduceToNat, Nat.reduceAdd, Nat.reduceMul, Nat.reduceEqDiff, ↓reduceIte]))
    refine LoopV_of (X := Unit) (st := fun _ => ([(0, .row 1 ((nl W).map (ie .u64))), (1, .lit (.int .i64 at0)), (5, .ref 0 0 0 0), (6, DV 0), (7, .lit (.int .i64 0)), (62, .lit (.int .i64 0)), (63, .lit (.int .i64 0))], [some (.cells [.row 1 ((nl (wg 0)).map (ie .u64))])]))
      (inv := fun _ => True) (m := fun _ => 0) () [some 0] rfl (by simp (disch := (first | omega | (simp only [lnA, List.length_map, List.length_range, true_and, and_true]; (try omega); done) | fail)) only [go_sem, Int.reduceEq, Int.reduceToNat, Nat.reduceAdd, Nat.reduceMul, Nat.reduceEqDiff, ↓reduceIte, true_and, and_true, and_self, List.drop_zero, List.take_length, Nat.le_refl, V.lit.injEq, Value.int.injEq, Value.bool.injEq]; try (first | omega | (simp; done) | (simp; omega))) (by simp (disch := (first | omega | (simp only [lnA, List.length_map, List.length_range, true_and, and_true]; (try omega); done) | fail)) only [go_sem, Int.reduceEq, Int.reduceToNat, Nat.reduceAdd, Nat.reduceMul, Nat.reduceEqDiff, ↓reduceIte, true_and, and_true, and_self, List.drop_zero, List.take_length, Nat.le_refl, V.lit.injEq, Value.int.injEq, Value.bool.injEq]; try (first | omega | (simp; done) | (simp; omega))) trivial ?_
    intro _ _
    simp (maxSteps := 1000000) (disch := (first | omega | (simp only [lnA, List.length_map, List.length_range, true_and, and_true]; (try omega); done) | fail)) only [go_sem, Int.reduceEq, Int.reduceToNat, Nat.reduceAdd, Nat.reduceMul, Nat.reduceEqDiff, ↓reduceIte]
    rcases hbit with ⟨hneg, bt⟩ | ⟨I, rfl, hI, bt⟩ | ⟨I, x, b, rfl, hI, hx, hxl, hd, bt⟩
    · repeat (first | (refine callV0 (zz) rfl rfl ?_) | (refine callV0 (bt) rfl rfl ?_) | (refine callV0 (ni) rfl rfl ?_) | (refine callV0 (i1) rfl rfl ?_) | (simp (maxSteps := 1000000) (disch := (first | omega | (simp only [lnA, List.length_map, List.length_range, true_and, and_true]; (try omega); done) | fail)) only [go_sem, eq_self, decide_true, decide_false, List.append_eq, List.cons_append, List.nil_append, hM, Int.reduceEq, Int.reduceToNat, Nat.reduceAdd, Nat.reduceMul, Nat.reduceEqDiff, ↓reduceIte]))
      exact endW [] hQ
    · have hq : (I : Int) / 64 = ((I / 64 : Nat) : Int) := by omega
      generalize I / 64 = q at *
      repeat (first | (refine callV0 (zz) rfl rfl ?_) | (refine callV0 (bt) rfl rfl ?_) | (refine callV0 (ni) rfl rfl ?_) | (refine callV0 (i1) rfl rfl ?_) | (simp (maxSteps := 1000000) (disch := (first | omega | (simp only [lnA, List.length_map, List.length_range, true_and, and_true]; (try omega); done) | fail)) only [go_sem, eq_self, decide_true, decide_false, List.append_eq, List.cons_append, List.nil_append, hM, hq, Int.reduceEq, Int.reduceToNat, Nat.reduceAdd, Nat.reduceMul, Nat.reduceEqDiff, ↓reduceIte]))
      exact endW [] hQ
    · have hq : (I : Int) / 64 = ((I / 64 : Nat) : Int) := by omega
      have hr : (I : Int) % 64 = ((I % 64 : Nat) : Int) := by omega
      have hs : I % 64 < 64 := Nat.mod_lt _ (by decide)
      have hdv : (x : Int) / 2 ^ (I % 64) = ((x / 2 ^ (I % 64) : Nat) : Int) := div_nat x (I % 64)
      have hxl2 : x / 2 ^ (I % 64) ≤ x := Nat.div_le_self _ _
      generalize x / 2 ^ (I % 64) = y at *
      generalize I / 64 = q at *
      generalize I % 64 = s at *
      repeat (first | (refine callV0 (zz) rfl rfl ?_) | (refine callV0 (bt) rfl rfl ?_) | (refine callV0 (ni) rfl rfl ?_) | (refine callV0 (i1) rfl rfl ?_) | (simp (maxSteps := 1000000) (disch := (first | omega | (simp only [lnA, List.length_map, List.length_range, true_and, and_true]; (try omega); done) | fail)) only [go_sem, eq_self, decide_true, decide_false, List.append_eq, List.cons_append, List.nil_append, hM, hq, hr, hx, hdv, hd, beq_self_eq_true, Int.reduceEq, Int.reduceToNat, Nat.reduceAdd, Nat.reduceMul, Nat.reduceEqDiff, ↓reduceIte]))
      exact endW [] hQ
  · have hlp : 0 < n := by have := wg_of_pos hv0; omega
    rw [decide_eq_false hv0] at zz
    have ww := nwords_fn (v := v) (by omega) hv0
    have hg1 := nl_get W (n - 1)
    have hk1 : ((n : Int) - 1).toNat = n - 1 := by omega
    have hz1 : W.getD (n - 1) 0 ≠ 0 := fun e => hgo ⟨hlp, e⟩
    have hwant : (n = 1 ∧ ∃ x0 : Nat, (nl W).getD 0 0 = (x0 : Int) ∧ x0 < 18446744073709551616 ∧ v = x0) ∨ (2 ≤ n ∧ min v M = M) := by
      by_cases h1 : n = 1
      · left
        refine ⟨h1, v, ?_, ?_, rfl⟩
        · rw [nl_get, hgd, wg_of_one (by omega)]; rfl
        · exact wg_lt v v (by rw [wg_of_one (by omega)]; simp)
      · right
        refine ⟨by omega, ?_⟩
        have hgt : 18446744073709551616 ≤ v := by
          refine Classical.byContradiction fun h => ?_
          have := wg_one (n := v) (by omega)
          omega
        omega
    simp (maxSteps := 1000000) (disch := (first | omega | (simp only [lnA, List.length_map, List.length_range, true_and, and_true]; (try omega); done) | fail)) only [go_sem, hk1, hg1, Int.reduceEq, Int.reduceToNat, Nat.reduceAdd, Nat.reduceMul, Nat.reduceEqDiff, ↓reduceIte]
    refine callF (ww) ?_
    repeat (first | (refine callV0 (b1) rfl rfl ?_) | (refine callV0 (b2) rfl rfl ?_) | (refine callV0 (zz) rfl rfl ?_) | (refine callV0 (i1) rfl rfl ?_) | (simp (maxSteps := 1000000) (disch := (first | omega | (simp only [lnA, List.length_map, List.length_range, true_and, and_true]; (try omega); done) | fail)) only [go_sem, eq_self, decide_true, decide_false, List.append_eq, List.cons_append, List.nil_append, Int.reduceEq, Int.reduceToNat, Nat.reduceAdd, Nat.reduceMul, Nat.reduceEqDiff, ↓reduceIte]))
    refine LoopV_of (X := Nat) (st := fun i => ([(0, .row 1 ((nl W).map (ie .u64))), (1, .lit (.int .i64 at0)), (5, .ref 0 0 0 0), (6, DV v), (7, .lit (.int .i64 (n : Int))), (8, .sl 1 1 0 n), (62, .lit (.int .i64 (n : Int))), (63, .lit (.int .i64 (i : Int)))], [some (.cells [.row 1 ((nl (wg v)).map (ie .u64))]), some (.row 1 ((nl (prt [] (((wg v).take i).map up1) (wg v))).map (ie .u64)))]))
      (inv := fun i => i ≤ n) (m := fun i => n - i) 0 [some 0, some 1] rfl (by simp only [List.take_zero, List.map_nil, prt_nil, List.nil_append]; (simp (disch := (first | omega | (simp only [lnA, List.length_map, List.length_range, true_and, and_true]; (try omega); done) | fail)) only [go_sem, Int.reduceEq, Int.reduceToNat, Nat.reduceAdd, Nat.reduceMul, Nat.reduceEqDiff, ↓reduceIte, true_and, and_true, and_self, List.drop_zero, List.take_length, Nat.le_refl, V.lit.injEq, Value.int.injEq, Value.bool.injEq]; try (first | omega | (simp; done) | (simp; omega)))) (by simp (disch := (first | omega | (simp only [lnA, List.length_map, List.length_range, true_and, and_true]; (try omega); done) | fail)) only [go_sem, Int.reduceEq, Int.reduceToNat, Nat.reduceAdd, Nat.reduceMul, Nat.reduceEqDiff, ↓reduceIte, true_and, and_true, and_self, List.drop_zero, List.take_length, Nat.le_refl, V.lit.injEq, Value.int.injEq, Value.bool.injEq]; try (first | omega | (simp; done) | (simp; omega))) (by omega) ?_
    intro i hi
    have hF : (((wg v).take i).map up1).length = i := by rw [List.length_map, List.length_take]; omega
    have hpl := prt_len (P := []) (N := ((wg v).take i).map up1) (T := wg v) (by omega)
    have hnp := nl_len (prt [] (((wg v).take i).map up1) (wg v))
    rw [List.length_nil, Nat.zero_add] at hpl
    by_cases h1 : i < n
    · have hsn : ((wg v).take (i + 1)).map up1 = ((wg v).take i).map up1 ++ [up1 ((wg v).getD i 0)] := by rw [takeSn (by omega), List.map_append]; rfl
      have hg1 := p0_get (N := ((wg v).take i).map up1) (T := wg v) (i := i) (by omega) (by omega)
      have hg2 := nl_get W i
      have hwl := getD_ltB (by decide) (wg_lt v) i
      rw [hgd] at hg2
      have hset := fun x => p0_set (N := ((wg v).take i).map up1) (T := wg v) (x := x) hF (by omega)
      generalize (wg v).getD i 0 = w at *
      have hwr := up1_wrap w
      simp (maxSteps := 1000000) (disch := (first | omega | (simp only [lnA, List.length_map, List.length_range, true_and, and_true]; (try omega); done) | fail)) only [go_sem, hg1, hg2, hwr, hset, Int.reduceEq, Int.reduceToNat, Nat.reduceAdd, Nat.reduceMul, Nat.reduceEqDiff, ↓reduceIte]
      refine NextV_of (i + 1) [some 0, some 1] rfl (by rw [hsn]; (simp (disch := (first | omega | (simp only [lnA, List.length_map, List.length_range, true_and, and_true]; (try omega); done) | fail)) only [go_sem, Int.reduceEq, Int.reduceToNat, Nat.reduceAdd, Nat.reduceMul, Nat.reduceEqDiff, ↓reduceIte, true_and, and_true, and_self, List.drop_zero, List.take_length, Nat.le_refl, V.lit.injEq, Value.int.injEq, Value.bool.injEq]; try (first | omega | (simp; done) | (simp; omega)))) (by simp (disch := (first | omega | (simp only [lnA, List.length_map, List.length_range, true_and, and_true]; (try omega); done) | fail)) only [go_sem, Int.reduceEq, Int.reduceToNat, Nat.reduceAdd, Nat.reduceMul, Nat.reduceEqDiff, ↓reduceIte, true_and, and_true, and_self, List.drop_zero, List.take_length, Nat.le_refl, V.lit.injEq, Value.int.injEq, Value.bool.injEq]; try (first | omega | (simp; done) | (simp; omega))) (by omega) (by omega)
    · simp (maxSteps := 1000000) (disch := (first | omega | (simp only [lnA, List.length_map, List.length_range, true_and, and_true]; (try omega); done) | fail)) only [go_sem, Int.reduceEq, Int.reduceToNat, Nat.reduceAdd, Nat.reduceMul, Nat.reduceEqDiff, ↓reduceIte]
      rcases hwant with ⟨rfl, x0, hx0, hxl0, rfl⟩ | ⟨hn2, hmin⟩
      · obtain ⟨r, hr0⟩ : ∃ r, min v M = r := ⟨_, rfl⟩
        rw [hr0] at ni
        by_cases hlt : v < M
        · obtain rfl : r = v := by omega
          rcases hbit with ⟨hneg, bt⟩ | ⟨I, rfl, hI, bt⟩ | ⟨I, x, b, rfl, hI, hx, hxl, hd, bt⟩
          · repeat (first | (refine callV0 (zz) rfl rfl ?_) | (refine callV0 (bt) rfl rfl ?_) | (refine callV0 (ni) rfl rfl ?_) | (refine callV0 (i1) rfl rfl ?_) | (simp (maxSteps := 1000000) (disch := (first | omega | (simp only [lnA, List.length_map, List.length_range, true_and, and_true]; (try omega); done) | fail)) only [go_sem, eq_self, decide_true, decide_false, List.append_eq, List.cons_append, List.nil_append, hM, hx0, Int.reduceEq, Int.reduceToNat, Nat.reduceAdd, Nat.reduceMul, Nat.reduceEqDiff, ↓reduceIte]))
            exact endW [] hQ
          · have hq : (I : Int) / 64 = ((I / 64 : Nat) : Int) := by omega
            generalize I / 64 = q at *
            repeat (first | (refine callV0 (zz) rfl rfl ?_) | (refine callV0 (bt) rfl rfl ?_) | (refine callV0 (ni) rfl rfl ?_) | (refine callV0 (i1) rfl rfl ?_) | (simp (maxSteps := 1000000) (disch := (first | omega | (simp only [lnA, List.length_map, List.length_range, true_and, and_true]; (try omega); done) | fail)) only [go_sem, eq_self, decide_true, decide_false, List.append_eq, List.cons_append, List.nil_append, hM, hq, hx0, Int.reduceEq, Int.reduceToNat, Nat.reduceAdd, Nat.reduceMul, Nat.reduceEqDiff, ↓reduceIte]))
            exact endW [] hQ
          · have hq : (I : Int) / 64 = ((I / 64 : Nat) : Int) := by omega
            have hr : (I : Int) % 64 = ((I % 64 : Nat) : Int) := by omega
            have hs : I % 64 < 64 := Nat.mod_lt _ (by decide)
            have hdv : (x : Int) / 2 ^ (I % 64) = ((x / 2 ^ (I % 64) : Nat) : Int) := div_nat x (I % 64)
            have hxl2 : x / 2 ^ (I % 64) ≤ x := Nat.div_le_self _ _
            generalize x / 2 ^ (I % 64) = y at *
            generalize I / 64 = q at *
            generalize I % 64 = s at *
            repeat (first | (refine callV0 (zz) rfl rfl ?_) | (refine callV0 (bt) rfl rfl ?_) | (refine callV0 (ni) rfl rfl ?_) | (refine callV0 (i1) rfl rfl ?_) | (simp (maxSteps := 1000000) (disch := (first | omega | (simp only [lnA, List.length_map, List.length_range, true_and, and_true]; (try omega); done) | fail)) only [go_sem, eq_self, decide_true, decide_false, List.append_eq, List.cons_append, List.nil_append, hM, hq, hr, hx, hdv, hd, beq_self_eq_true, hx0, Int.reduceEq, Int.reduceToNat, Nat.reduceAdd, Nat.reduceMul, Nat.reduceEqDiff, ↓reduceIte]))
            exact endW [] hQ
        · obtain rfl : r = M := by omega
          rcases hbit with ⟨hneg, bt⟩ | ⟨I, rfl, hI, bt⟩ | ⟨I, x, b, rfl, hI, hx, hxl, hd, bt⟩
          · repeat (first | (refine callV0 (zz) rfl rfl ?_) | (refine callV0 (bt) rfl rfl ?_) | (refine callV0 (ni) rfl rfl ?_) | (refine callV0 (i1) rfl rfl ?_) | (simp (maxSteps := 1000000) (disch := (first | omega | (simp only [lnA, List.length_map, List.length_range, true_and, and_true]; (try omega); done) | fail)) only [go_sem, eq_self, decide_true, decide_false, List.append_eq, List.cons_append, List.nil_append, hM, hx0, Int.reduceEq, Int.reduceToNat, Nat.reduceAdd, Nat.reduceMul, Nat.reduceEqDiff, ↓reduceIte]))
            exact endW [] hQ
          · have hq : (I : Int) / 64 = ((I / 64 : Nat) : Int) := by omega
            generalize I / 64 = q at *
            repeat (first | (refine callV0 (zz) rfl rfl ?_) | (refine callV0 (bt) rfl rfl ?_) | (refine callV0 (ni) rfl rfl ?_) | (refine callV0 (i1) rfl rfl ?_) | (simp (maxSteps := 1000000) (disch := (first | omega | (simp only [lnA, List.length_map, List.length_range, true_and, and_true]; (try omega); done) | fail)) only [go_sem, eq_self, decide_true, decide_false, List.append_eq, List.cons_append, List.nil_append, hM, hq, hx0, Int.reduceEq, Int.reduceToNat, Nat.reduceAdd, Nat.reduceMul, Nat.reduceEqDiff, ↓reduceIte]))
            exact endW [] hQ
          · have hq : (I : Int) / 64 = ((I / 64 : Nat) : Int) := by omega
            have hr : (I : Int) % 64 = ((I % 64 : Nat) : Int) := by omega
            have hs : I % 64 < 64 := Nat.mod_lt _ (by decide)
            have hdv : (x : Int) / 2 ^ (I % 64) = ((x / 2 ^ (I % 64) : Nat) : Int) := div_nat x (I % 64)
            have hxl2 : x / 2 ^ (I % 64) ≤ x := Nat.div_le_self _ _
            generalize x / 2 ^ (I % 64) = y at *
            generalize I / 64 = q at *
            generalize I % 64 = s at *
            repeat (first | (refine callV0 (zz) rfl rfl ?_) | (refine callV0 (bt) rfl rfl ?_) | (refine callV0 (ni) rfl rfl ?_) | (refine callV0 (i1) rfl rfl ?_) | (simp (maxSteps := 1000000) (disch := (first | omega | (simp only [lnA, List.length_map, List.length_range, true_and, and_true]; (try omega); done) | fail)) only [go_sem, eq_self, decide_true, decide_false, List.append_eq, List.cons_append, List.nil_append, hM, hq, hr, hx, hdv, hd, beq_self_eq_true, hx0, Int.reduceEq, Int.reduceToNat, Nat.reduceAdd, Nat.reduceMul, Nat.reduceEqDiff, ↓reduceIte]))
            exact endW [] hQ
      · rw [hmin] at ni
        rcases hbit with ⟨hneg, bt⟩ | ⟨I, rfl, hI, bt⟩ | ⟨I, x, b, rfl, hI, hx, hxl, hd, bt⟩
        · repeat (first | (refine callV0 (zz) rfl rfl ?_) | (refine callV0 (bt) rfl rfl ?_) | (refine callV0 (ni) rfl rfl ?_) | (refine callV0 (i1) rfl rfl ?_) | (simp (maxSteps := 1000000) (disch := (first | omega | (simp only [lnA, List.length_map, List.length_range, true_and, and_true]; (try omega); done) | fail)) only [go_sem, eq_self, decide_true, decide_false, List.append_eq, List.cons_append, List.nil_append, hM, Int.reduceEq, Int.reduceToNat, Nat.reduceAdd, Nat.reduceMul, Nat.reduceEqDiff, ↓reduceIte]))
          exact endW [] hQ
        · have hq : (I : Int) / 64 = ((I / 64 : Nat) : Int) := by omega
          generalize I / 64 = q at *
          repeat (first | (refine callV0 (zz) rfl rfl ?_) | (refine callV0 (bt) rfl rfl ?_) | (refine callV0 (ni) rfl rfl ?_) | (refine callV0 (i1) rfl rfl ?_) | (simp (maxSteps := 1000000) (disch := (first | omega | (simp only [lnA, List.length_map, List.length_range, true_and, and_true]; (try omega); done) | fail)) only [go_sem, eq_self, decide_true, decide_false, List.append_eq, List.cons_append, List.nil_append, hM, hq, Int.reduceEq, Int.reduceToNat, Nat.reduceAdd, Nat.reduceMul, Nat.reduceEqDiff, ↓reduceIte]))
          exact endW [] hQ
        · have hq : (I : Int) / 64 = ((I / 64 : Nat) : Int) := by omega
          have hr : (I : Int) % 64 = ((I % 64 : Nat) : Int) := by omega
          have hs : I % 64 < 64 := Nat.mod_lt _ (by decide)
          have hdv : (x : Int) / 2 ^ (I % 64) = ((x / 2 ^ (I % 64) : Nat) : Int) := div_nat x (I % 64)
          have hxl2 : x / 2 ^ (I % 64) ≤ x := Nat.div_le_self _ _
          generalize x / 2 ^ (I % 64) = y at *
          generalize I / 64 = q at *
          generalize I % 64 = s at *
          repeat (first | (refine callV0 (zz) rfl rfl ?_) | (refine callV0 (bt) rfl rfl ?_) | (refine callV0 (ni) rfl rfl ?_) | (refine callV0 (i1) rfl rfl ?_) | (simp (maxSteps := 1000000) (disch := (first | omega | (simp only [lnA, List.length_map, List.length_range, true_and, and_true]; (try omega); done) | fail)) only [go_sem, eq_self, decide_true, decide_false, List.append_eq, List.cons_append, List.nil_append, hM, hq, hr, hx, hdv, hd, beq_self_eq_true, Int.reduceEq, Int.reduceToNat, Nat.reduceAdd, Nat.reduceMul, Nat.reduceEqDiff, ↓reduceIte]))
          exact endW [] hQ
end Go.Proofs.YtfkpfhjfjnnbbaaDoor
