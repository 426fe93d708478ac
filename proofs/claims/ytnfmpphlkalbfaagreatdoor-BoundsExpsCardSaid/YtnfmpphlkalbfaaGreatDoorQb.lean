import Derived.Test.YtnfmpphlkalbfaaGreatDoorZq
/-! Law 7: what its statements share. -/
namespace Go.Proofs.YtnfmpphlkalbfaaGreatDoor
open Go.Eng Go.Vx
set_option linter.unusedSimpArgs false
set_option linter.unusedVariables false
set_option maxRecDepth 100000
theorem rwhole_fn {x : Rat} (hx : RS 1000000 x) : Fn1 Tryz.prog 54 [RV x] [] (.lit (.bool (decide (x.den = 1)))) [] := by
  have hd := x.den_nz
  have hl : (wg (x.den - 1)).length ≤ 1000000 := Nat.le_trans (wg_mono (by omega)) hx.2
  have z := zero_fn (n := x.den - 1) (by omega)
  rw [show decide (x.den - 1 = 0) = decide (x.den = 1) by congr 1; exact propext ⟨fun h => by omega, fun h => by omega⟩] at z
  refine fn1N_of pl54 (by kernel_rfl) Tryz.call54 Tryz.func54 rfl (by kernel_rfl) rfl [.tmp 2] (by kernel_rfl) fun Q hQ => ?_
  repeat (first | (refine callV0 (z) rfl rfl ?_) | (simp (maxSteps := 1000000) (disch := (first | omega | (simp only [lnA, List.length_map, List.length_range, true_and, and_true]; (try omega); done) | fail)) only [go_sem, Int.reduceEq, Int.reduceToNat, Nat.reduceAdd, Nat.reduceMul, Nat.reduceEqDiff, ↓reduceIte]))
  exact endW [] hQ
theorem rtxt_fn {x : Rat} (hx : RS 5000 x) : Fn1 Tryz.prog 13 [RV x] [] (.lit (.string (bs (qS x)))) [] := by
  obtain ⟨hx1, hx2⟩ := hx
  have w := rwhole_fn (x := x) ⟨Nat.le_trans hx1 (by decide), Nat.le_trans hx2 (by decide)⟩
  have t := wtext_fn (x := x.num) (by omega)
  have dn := rden_fn (x := x) (by omega)
  have td := ntext_fn (n := x.den) (by omega)
  have s1 := decS_wg hx1
  have s2 := decS_wg hx2
  have s3 : (zS x.num).length ≤ (decS x.num.natAbs).length + 1 := by unfold zS; split <;> simp
  unfold qS
  by_cases h : x.den = 1
  · rw [if_pos h, List.append_nil]
    rw [decide_eq_true h] at w
    generalize zS x.num = sn at *
    refine fn1N_of pl13 (by kernel_rfl) Tryz.call13 Tryz.func13 rfl (by kernel_rfl) rfl [.tmp 2] (by kernel_rfl) fun Q hQ => ?_
    repeat (first | (refine callV0 (w) rfl rfl ?_) | (refine callV0 (t) rfl rfl ?_) | (simp (maxSteps := 1000000) (disch := (first | omega | (simp only [lnA, List.length_map, List.length_range, true_and, and_true]; (try omega); done) | fail)) only [go_sem, Int.reduceEq, Int.reduceToNat, Nat.reduceAdd, Nat.reduceMul, Nat.reduceEqDiff, ↓reduceIte]))
    exact endW [] hQ
  · rw [if_neg h]
    rw [decide_eq_false h] at w
    generalize zS x.num = sn at *
    refine fn1N_of pl13 (by kernel_rfl) Tryz.call13 Tryz.func13 rfl (by kernel_rfl) rfl [.tmp 2] (by kernel_rfl) fun Q hQ => ?_
    repeat (first | (refine callV0 (w) rfl rfl ?_) | (refine callV0 (t) rfl rfl ?_) | (refine callV0 (dn) rfl rfl ?_) | (refine callV0 (td) rfl rfl ?_) | (simp (maxSteps := 1000000) (disch := (first | omega | (simp only [lnA, List.length_map, List.length_range, true_and, and_true]; (try omega); done) | fail)) only [go_sem, List.append_assoc, List.cons_append, List.nil_append, Int.reduceEq, Int.reduceToNat, Nat.reduceAdd, Nat.reduceMul, Nat.reduceEqDiff, ↓reduceIte]))
    exact endW [] hQ
theorem div_mk {z : Int} {d : Nat} : (z : Rat) / (((d : Nat) : Int) : Rat) = mkRat z d := by rw [← Rat.divInt_eq_div, Rat.divInt_ofNat]
set_option maxHeartbeats 4000000 in
/-- What a draw says. -/
theorem both7_of {P0 Q0 : List Nat} {b : Bool} (hP0 : ∀ d ∈ P0, d < 18446744073709551616) (lP : P0.length ≤ 9223372036854775807) (hQ0 : ∀ d ∈ Q0, d < 18446744073709551616) (lQ : Q0.length ≤ 9223372036854775807) :
    ∃ (x : Rat) (p m d : Nat), d ≠ 0 ∧ x = mkRat ((p : Int) - m) d ∧ RS 2 x ∧ (dg p).length ≤ 10 ∧ (dg m).length ≤ 10 ∧ (dg d).length ≤ 10 ∧
    Fn1 Tryz.prog 6 [.agg [.row 1 ((nl P0).map (ie .u64)), .row 1 ((nl Q0).map (ie .u64)), .lit (.bool b)]] [] (.tup [RV x, QD p m d]) [] := by
  obtain ⟨fp, hP, hPl⟩ := few_of (k := 2) hP0 lP (by decide)
  obtain ⟨fq, hQ', hQl⟩ := few_of (k := 2) hQ0 lQ (by decide)
  generalize P0.take 2 = W1 at *
  generalize Q0.take 2 = W2 at *
  have oa := of_fn hP (by omega)
  have la := val_len hP hPl
  have da := wv_len hP
  have za := zmake_fn (b := b) hP (by omega)
  unfold wv at za da
  generalize valB 18446744073709551616 W1 = v at *
  have wm := wmake_fn (b := b) (n := v) (by omega)
  have ob := of_fn hQ' (by omega)
  have lb := val_len hQ' hQl
  have db := wv_len hQ'
  have vb := lof_fn hQ' (by omega)
  unfold wv at vb db
  generalize valB 18446744073709551616 W2 = d at *
  have d0 : (dg 0).length ≤ 10 := by rw [dg_zero]; decide
  have hnd := nl_len (dg d)
  obtain ⟨p, m, hpm, hpl, hml, za'⟩ : ∃ p m : Nat, sg b v = (p : Int) - m ∧ (dg p).length ≤ 10 ∧ (dg m).length ≤ 10 ∧ Fn1 Tryz.prog 32 [.lit (.bool b), .row 1 ((nl W1).map (ie .u64))] [] (ZD p m) [] := by
    cases b with
    | false => exact ⟨v, 0, by simp [sg], by omega, d0, by simpa using za⟩
    | true => exact ⟨0, v, by simp [sg], d0, by omega, by simpa using za⟩
  clear za
  have sl : (wg (sg b v).natAbs).length ≤ 2 := by rw [sg_abs]; exact la
  by_cases h : d = 0
  · subst h
    have e : dg 0 = [] := dg_zero
    have o1 := of1_fn (x := 1) (by decide)
    have s1 := small_fn (n := 1) (by decide)
    have l1 : (wg 1).length ≤ 1 := wg_one (by decide)
    have wq := wmake_fn (b := false) (n := 1) (by omega)
    rw [show sg false 1 = ((1 : Nat) : Int) from rfl] at wq
    have fr := rfrac_fn (p := sg b v) (q := ((1 : Nat) : Int)) (by decide) (by omega) (by rw [Int.natAbs_natCast]; omega)
    rw [div_mk] at fr
    have qf := qfrac_fn (p := p) (m := m) (d := 1)
    refine ⟨mkRat (sg b v) 1, p, m, 1, by decide, by rw [hpm], RS_mk (by decide) sl (by omega), hpl, hml, Nat.le_trans (dg_len (k := 1) (by decide)) (by decide), ?_⟩
    generalize mkRat (sg b v) 1 = x at *
    generalize sg b v = z at *
    refine fn1N_of pl6 (by kernel_rfl) Tryz.call6 Tryz.func6 rfl (by kernel_rfl) rfl [.cell 2 31, .cell 3 37] (by kernel_rfl) fun Q hQ => ?_
    repeat (first | (refine callV0 (fp) rfl rfl ?_) | (refine callV0 (fq) rfl rfl ?_) | (refine callV0 (oa) rfl rfl ?_) | (refine callV0 (ob) rfl rfl ?_) | (refine callV0 (vb) rfl rfl ?_) | (refine callV0 (s1) rfl rfl ?_) | (refine callV0 (za') rfl rfl ?_) | (refine callV0 (wm) rfl rfl ?_) | (refine callV0 (wq) rfl rfl ?_) | (refine callV0 (fr) rfl rfl ?_) | (refine callV0 (qf) rfl rfl ?_) | (simp (maxSteps := 1000000) (disch := (first | omega | (simp only [lnA, List.length_map, List.length_range, true_and, and_true]; (try omega); done) | fail)) only [go_sem, e, List.length_map, nl_len, Int.reduceEq, Int.reduceToNat, Nat.reduceAdd, Nat.reduceMul, Nat.reduceEqDiff, ↓reduceIte]))
    refine callW [] [3] (o1) ?_
    repeat (first | (refine callV0 (fp) rfl rfl ?_) | (refine callV0 (fq) rfl rfl ?_) | (refine callV0 (oa) rfl rfl ?_) | (refine callV0 (ob) rfl rfl ?_) | (refine callV0 (vb) rfl rfl ?_) | (refine callV0 (s1) rfl rfl ?_) | (refine callV0 (za') rfl rfl ?_) | (refine callV0 (wm) rfl rfl ?_) | (refine callV0 (wq) rfl rfl ?_) | (refine callV0 (fr) rfl rfl ?_) | (refine callV0 (qf) rfl rfl ?_) | (simp (maxSteps := 1000000) (disch := (first | omega | (simp only [lnA, List.length_map, List.length_range, true_and, and_true]; (try omega); done) | fail)) only [go_sem, e, List.length_map, nl_len, Int.reduceEq, Int.reduceToNat, Nat.reduceAdd, Nat.reduceMul, Nat.reduceEqDiff, ↓reduceIte]))
    exact endW [] hQ
  · have hp := dg_pos h
    have wq := wmake_fn (b := false) (n := d) (by omega)
    rw [show sg false d = (d : Int) from rfl] at wq
    have fr := rfrac_fn (p := sg b v) (q := (d : Int)) (by omega) (by omega) (by rw [Int.natAbs_natCast]; omega)
    rw [div_mk] at fr
    have qf := qfrac_fn (p := p) (m := m) (d := d)
    refine ⟨mkRat (sg b v) d, p, m, d, h, by rw [hpm], RS_mk h sl lb, hpl, hml, by omega, ?_⟩
    generalize mkRat (sg b v) d = x at *
    generalize sg b v = z at *
    refine fn1N_of pl6 (by kernel_rfl) Tryz.call6 Tryz.func6 rfl (by kernel_rfl) rfl [.cell 2 31, .cell 3 37] (by kernel_rfl) fun Q hQ => ?_
    repeat (first | (refine callV0 (fp) rfl rfl ?_) | (refine callV0 (fq) rfl rfl ?_) | (refine callV0 (oa) rfl rfl ?_) | (refine callV0 (ob) rfl rfl ?_) | (refine callV0 (vb) rfl rfl ?_) | (refine callV0 (za') rfl rfl ?_) | (refine callV0 (wm) rfl rfl ?_) | (refine callV0 (wq) rfl rfl ?_) | (refine callV0 (fr) rfl rfl ?_) | (refine callV0 (qf) rfl rfl ?_) | (simp (maxSteps := 1000000) (disch := (first | omega | (simp only [lnA, List.length_map, List.length_range, true_and, and_true]; (try omega); done) | fail)) only [go_sem, Int.reduceEq, Int.reduceToNat, Nat.reduceAdd, Nat.reduceMul, Nat.reduceEqDiff, ↓reduceIte]))
    exact endW [] hQ
theorem decS_48 {n : Nat} : decS n = [48] ↔ n = 0 := by
  constructor
  · intro h
    have h1 := decS_len n
    rw [h] at h1
    have h2 := (nd10_le (n := n) (k := 1) (by decide)).1 (by rw [← h1]; decide)
    rw [decS_small (by simpa using h2)] at h
    have h3 := congrArg UInt8.toNat (List.cons.inj h).1
    rw [UInt8.toNat_ofNat', Nat.mod_eq_of_lt (by omega)] at h3
    have h4 : (48 : UInt8).toNat = 48 := rfl
    omega
  · rintro rfl
    rw [decS_small (by decide)]
    rfl
theorem decS_ne (n : Nat) : decS n ≠ [] := fun e => by
  have h1 := decS_len n
  rw [e] at h1
  have := nd10_pos n
  simp at h1
  omega
theorem zS_48 {z : Int} : zS z = [48] ↔ z = 0 := by
  unfold zS
  by_cases h : z < 0
  · rw [if_pos h]
    constructor
    · intro e
      have := (List.cons.inj e).1
      exact absurd this (by decide)
    · intro e; omega
  · rw [if_neg h, decS_48]
    omega
theorem zS_ne (z : Int) : zS z ≠ [] := by unfold zS; split <;> simp [decS_ne]
theorem qS_48 {x : Rat} : qS x = [48] ↔ x = 0 := by
  unfold qS
  by_cases h : x.den = 1
  · rw [if_pos h, List.append_nil, zS_48, Rat.num_eq_zero]
  · rw [if_neg h]
    constructor
    · intro e
      have h1 := congrArg List.length e
      have h2 : 0 < (zS x.num).length := List.length_pos_iff.2 (zS_ne _)
      simp at h1
      omega
    · intro e
      rw [e] at h
      exact absurd rfl h
end Go.Proofs.YtnfmpphlkalbfaaGreatDoor

/-! Law 7: a fixed fact; RatSums, RatField. -/
namespace Go.Proofs.YtnfmpphlkalbfaaGreatDoor
open Go.Eng Go.Vx
set_option linter.unusedSimpArgs false
set_option linter.unusedVariables false
set_option maxRecDepth 100000
theorem RS_small {z : Int} (h : z.natAbs < 18446744073709551616) : RS 1 (z : Rat) := RS_int (wg_one h) (by decide)
end Go.Proofs.YtnfmpphlkalbfaaGreatDoor
