import Derived.Test.YthlndppcjcjmlaaGreatDoorQi
/-! RatParses. -/
namespace Go.Proofs.YthlndppcjcjmlaaGreatDoor
open Go.Eng Go.Vx
set_option linter.unusedSimpArgs false
set_option linter.unusedVariables false
set_option maxRecDepth 100000
/-- Where the first bar lies. -/
def cx (l : List UInt8) : Int := if hasL l then ((cutA l).length : Int) else -1
theorem cutA_no (l : List UInt8) : ∀ b ∈ cutA l, b ≠ 47 := fun b hb => by
  have h : ∀ (l : List UInt8), b ∈ l.takeWhile (fun b => b != 47) → b ≠ 47 := by
    intro l
    induction l with
    | nil => intro h; simp at h
    | cons a l ih =>
      intro h
      rw [List.takeWhile_cons] at h
      by_cases ha : (a != 47) = true
      · rw [if_pos ha] at h
        rcases List.mem_cons.1 h with h | h
        · subst h; simpa using ha
        · exact ih h
      · rw [if_neg ha] at h
        simp at h
  exact h l hb
theorem hasL_no {l : List UInt8} (h : hasL l = false) : ∀ b ∈ l, b ≠ 47 := fun b hb e => by
  unfold hasL at h
  have := List.any_eq_false.1 h b hb
  subst e
  simp at this
theorem cx_ge (l : List UInt8) : -1 ≤ cx l := by unfold cx; split <;> omega
theorem cx_nil : cx [] = -1 := by decide
theorem cx_snoc (l : List UInt8) (b : UInt8) : cx (l ++ [b]) = if 0 ≤ cx l then cx l else if b = 47 then (l.length : Int) else -1 := by
  cases hL : hasL l with
  | true =>
    have h := ((ix_cut l).2 hL).2
    obtain ⟨n1, n2, n3⟩ := cut_app (a := cutA l) (c := cutB l ++ [b]) (cutA_no l)
    have e : l ++ [b] = cutA l ++ 47 :: (cutB l ++ [b]) := by
      conv => lhs; rw [h]
      simp
    rw [← e] at n1 n3
    unfold cx
    rw [n1, n3, hL, if_pos rfl, if_pos (by omega)]
  | false =>
    have e : cx l = -1 := by unfold cx; rw [hL]; rfl
    rw [e, if_neg (by decide)]
    by_cases hb : b = 47
    · subst hb
      obtain ⟨n1, n2, n3⟩ := cut_app (a := l) (c := []) (hasL_no hL)
      rw [if_pos rfl]
      unfold cx
      rw [n1, n3, if_pos rfl]
    · obtain ⟨n1, n3⟩ := cut_none (a := l ++ [b]) (fun c hc => by
        rcases List.mem_append.1 hc with h | h
        · exact hasL_no hL c h
        · rw [List.mem_singleton.1 h]; exact hb)
      rw [if_neg hb]
      unfold cx
      rw [n3]; rfl
theorem must2_fn {p : Int} {q : Nat} (hq : q ≠ 0) (h1 : (wg p.natAbs).length ≤ 2000) (h2 : (wg q).length ≤ 2000) : Fn1 Tryz.prog 22 [WV p, NV q] [] (RV (mkRat p q)) [] := by
  have wm := wmake_fn (b := false) (n := q) (by omega)
  rw [show sg false q = (q : Int) from rfl] at wm
  have fr := rfrac_fn (p := p) (q := (q : Int)) (by omega) (by omega) (by rw [Int.natAbs_natCast]; omega)
  rw [div_mk] at fr
  refine fn1N_of pl22 (by kernel_rfl) Tryz.call22 Tryz.func22 rfl (by kernel_rfl) rfl [.cell 4 31] (by kernel_rfl) fun Q hQ => ?_
  repeat (first | (refine callV0 (wm) rfl rfl ?_) | (refine callV0 (fr) rfl rfl ?_) | (simp (maxSteps := 1000000) (disch := (first | omega | (simp only [lnA, List.length_map, List.length_range, true_and, and_true]; (try omega); done) | fail)) only [go_sem, Int.reduceEq, Int.reduceToNat, Nat.reduceAdd, Nat.reduceMul, Nat.reduceEqDiff, ↓reduceIte]))
  exact endW [] hQ
set_option maxHeartbeats 8000000 in
theorem ratParses_fn {s0 : List UInt8} (hs : s0.length ≤ 9223372036854775807) :
    Fn1 Tryz.prog 5 [.lit (.string (bs s0))] [] (.lit (.bool true)) [] := by
  obtain ⟨s, hss, hsl⟩ : ∃ s, (if 300 < s0.length then s0.take 300 else s0) = s ∧ s.length ≤ 300 := ⟨_, rfl, by by_cases h : 300 < s0.length <;> simp [h] <;> omega⟩
  obtain ⟨x, e, p, sx, hx⟩ := rparse_of (s := s) (by omega)
  have t := rtxt_fn (x := x) (sx.mono (by decide))
  rcases hx with ⟨rfl, hq⟩ | ⟨rfl, rfl, hx⟩
  · rw [hq] at t
    clear hq
    refine fn1N_of pl5 (by kernel_rfl) Tryz.call5 Tryz.func5 rfl (by kernel_rfl) rfl [.tmp 2] (by kernel_rfl) fun Q hQ => ?_
    by_cases hcut : 300 < s0.length
    case' pos =>
      have hss2 : s0.take 300 = s := by rw [← hss, if_pos hcut]
      repeat (first | (refine callV0 (awake7_fn) rfl rfl ?_) | (refine callV0 (p) rfl rfl ?_) | (refine callV0 (t) rfl rfl ?_) | (simp (maxSteps := 1000000) (disch := (first | omega | (simp only [lnA, List.length_map, List.length_range, true_and, and_true]; (try omega); done) | fail)) only [go_sem, eq_self, decide_true, decide_false, hss2, Int.reduceEq, Int.reduceToNat, Nat.reduceAdd, Nat.reduceMul, Nat.reduceEqDiff, ↓reduceIte]))
    case' neg =>
      have hss2 : s0 = s := by rw [← hss, if_neg hcut]
      rw [hss2]
      repeat (first | (refine callV0 (awake7_fn) rfl rfl ?_) | (refine callV0 (p) rfl rfl ?_) | (refine callV0 (t) rfl rfl ?_) | (simp (maxSteps := 1000000) (disch := (first | omega | (simp only [lnA, List.length_map, List.length_range, true_and, and_true]; (try omega); done) | fail)) only [go_sem, eq_self, decide_true, decide_false, Int.reduceEq, Int.reduceToNat, Nat.reduceAdd, Nat.reduceMul, Nat.reduceEqDiff, ↓reduceIte]))
    all_goals exact endW [] hQ
  rw [show qS (0 : Rat) = [48] by decide +kernel] at t
  clear sx
  generalize (0 : Rat) = q0 at *
  have hc0 : ∀ l : List UInt8, cx (l.take 0) = -1 := fun l => cx_nil
  have hnx : ∀ i, i < s.length → cx (s.take (i + 1)) = if 0 ≤ cx (s.take i) then cx (s.take i) else if s.getD i 0 = 47 then (i : Int) else -1 := fun i h => by
    rw [List.take_succ_eq_append_getElem h, cx_snoc, List.length_take, Nat.min_eq_left (by omega)]
    simp [List.getD_eq_getElem?_getD, h]
  refine fn1N_of pl5 (by kernel_rfl) Tryz.call5 Tryz.func5 rfl (by kernel_rfl) rfl [.tmp 2] (by kernel_rfl) fun Q hQ => ?_
  apply joinV
  case f =>
    intro body
    by_cases hcut : 300 < s0.length
    case' pos =>
      have hss2 : s0.take 300 = s := by rw [← hss, if_pos hcut]
      repeat (first | (refine callV0 (awake7_fn) rfl rfl ?_) | (refine callV0 (p) rfl rfl ?_) | (refine callV0 (t) rfl rfl ?_) | (simp (maxSteps := 1000000) (disch := (first | omega | (simp only [lnA, List.length_map, List.length_range, true_and, and_true]; (try omega); done) | fail)) only [go_sem, eq_self, decide_true, decide_false, hss2, Int.reduceEq, Int.reduceToNat, Nat.reduceAdd, Nat.reduceMul, Nat.reduceEqDiff, ↓reduceIte]))
    case' neg =>
      have hss2 : s0 = s := by rw [← hss, if_neg hcut]
      rw [hss2]
      repeat (first | (refine callV0 (awake7_fn) rfl rfl ?_) | (refine callV0 (p) rfl rfl ?_) | (refine callV0 (t) rfl rfl ?_) | (simp (maxSteps := 1000000) (disch := (first | omega | (simp only [lnA, List.length_map, List.length_range, true_and, and_true]; (try omega); done) | fail)) only [go_sem, eq_self, decide_true, decide_false, Int.reduceEq, Int.reduceToNat, Nat.reduceAdd, Nat.reduceMul, Nat.reduceEqDiff, ↓reduceIte]))
    all_goals
      refine LoopV_of (X := Nat) (st := fun i => ([(0, .lit (.string (bs s))), (3, .ref 0 0 0 0), (4, .lit (.int .i64 4)), (5, .lit (.int .i64 (cx (s.take i)))), (39, .lit (.int .i64 (s.length : Int))), (40, .lit (.int .i64 (i : Int)))], [some (.cells [.row 1 ((nl (wg q0.num.natAbs)).map (ie .u64)), .lit (.bool (decide (q0.num < 0))), .row 1 ((nl (wg (q0.den - 1))).map (ie .u64))])]))
        (inv := fun i => i ≤ s.length) (m := fun i => s.length - i) 0 [some 0] rfl (by simp (disch := (first | omega | (simp only [lnA, List.length_map, List.length_range, true_and, and_true]; (try omega); done) | fail)) only [go_sem, Int.reduceEq, Int.reduceToNat, Nat.reduceAdd, Nat.reduceMul, Nat.reduceEqDiff, ↓reduceIte, true_and, and_true, and_self, List.drop_zero, List.take_length, Nat.le_refl, V.lit.injEq, Value.int.injEq, Value.bool.injEq]; try (first | omega | (simp; done) | (simp; omega))) ?_ (by omega) body.out
      rw [hc0]
      (simp (disch := (first | omega | (simp only [lnA, List.length_map, List.length_range, true_and, and_true]; (try omega); done) | fail)) only [go_sem, Int.reduceEq, Int.reduceToNat, Nat.reduceAdd, Nat.reduceMul, Nat.reduceEqDiff, ↓reduceIte, true_and, and_true, and_self, List.drop_zero, List.take_length, Nat.le_refl, V.lit.injEq, Value.int.injEq, Value.bool.injEq]; try (first | omega | (simp; done) | (simp; omega)))
  intro i hil
  by_cases h : i < s.length
  · have hnx := hnx i h
    have hc8 := (s.getD i 0).toNat_lt
    by_cases h47 : s.getD i 0 = 47
    · have hg : ((s.getD i 0).toNat : Int) = 47 := by rw [h47]; rfl
      by_cases hc : cx (s.take i) < 0
      · rw [if_neg (by omega), if_pos h47] at hnx
        simp (maxSteps := 1000000) (disch := (first | omega | (simp only [lnA, List.length_map, List.length_range, true_and, and_true]; (try omega); done) | fail)) only [go_sem, hg, decide_eq_true hc, Int.reduceEq, Int.reduceToNat, Nat.reduceAdd, Nat.reduceMul, Nat.reduceEqDiff, ↓reduceIte]
        refine NextV_of (i + 1) [some 0] rfl (by simp (disch := (first | omega | (simp only [lnA, List.length_map, List.length_range, true_and, and_true]; (try omega); done) | fail)) only [go_sem, Int.reduceEq, Int.reduceToNat, Nat.reduceAdd, Nat.reduceMul, Nat.reduceEqDiff, ↓reduceIte, true_and, and_true, and_self, List.drop_zero, List.take_length, Nat.le_refl, V.lit.injEq, Value.int.injEq, Value.bool.injEq]; try (first | omega | (simp; done) | (simp; omega))) (by rw [hnx]; (simp (disch := (first | omega | (simp only [lnA, List.length_map, List.length_range, true_and, and_true]; (try omega); done) | fail)) only [go_sem, Int.reduceEq, Int.reduceToNat, Nat.reduceAdd, Nat.reduceMul, Nat.reduceEqDiff, ↓reduceIte, true_and, and_true, and_self, List.drop_zero, List.take_length, Nat.le_refl, V.lit.injEq, Value.int.injEq, Value.bool.injEq]; try (first | omega | (simp; done) | (simp; omega)))) (by omega) (by omega)
      · rw [if_pos (by omega)] at hnx
        simp (maxSteps := 1000000) (disch := (first | omega | (simp only [lnA, List.length_map, List.length_range, true_and, and_true]; (try omega); done) | fail)) only [go_sem, hg, decide_eq_false hc, Int.reduceEq, Int.reduceToNat, Nat.reduceAdd, Nat.reduceMul, Nat.reduceEqDiff, ↓reduceIte]
        refine NextV_of (i + 1) [some 0] rfl (by simp (disch := (first | omega | (simp only [lnA, List.length_map, List.length_range, true_and, and_true]; (try omega); done) | fail)) only [go_sem, Int.reduceEq, Int.reduceToNat, Nat.reduceAdd, Nat.reduceMul, Nat.reduceEqDiff, ↓reduceIte, true_and, and_true, and_self, List.drop_zero, List.take_length, Nat.le_refl, V.lit.injEq, Value.int.injEq, Value.bool.injEq]; try (first | omega | (simp; done) | (simp; omega))) (by rw [hnx]; (simp (disch := (first | omega | (simp only [lnA, List.length_map, List.length_range, true_and, and_true]; (try omega); done) | fail)) only [go_sem, Int.reduceEq, Int.reduceToNat, Nat.reduceAdd, Nat.reduceMul, Nat.reduceEqDiff, ↓reduceIte, true_and, and_true, and_self, List.drop_zero, List.take_length, Nat.le_refl, V.lit.injEq, Value.int.injEq, Value.bool.injEq]; try (first | omega | (simp; done) | (simp; omega)))) (by omega) (by omega)
    · have hg : decide (((s.getD i 0).toNat : Int) = 47) = false := decide_eq_false fun e => h47 (UInt8.toNat_inj.1 (by
        have : (s.getD i 0).toNat = 47 := by omega
        rw [this]; rfl))
      have hn2 : cx (s.take (i + 1)) = cx (s.take i) := by
        rw [hnx]
        by_cases hc : 0 ≤ cx (s.take i)
        · rw [if_pos hc]
        · rw [if_neg hc, if_neg h47]
          have := cx_ge (s.take i)
          omega
      simp (maxSteps := 1000000) (disch := (first | omega | (simp only [lnA, List.length_map, List.length_range, true_and, and_true]; (try omega); done) | fail)) only [go_sem, hg, Int.reduceEq, Int.reduceToNat, Nat.reduceAdd, Nat.reduceMul, Nat.reduceEqDiff, ↓reduceIte]
      refine NextV_of (i + 1) [some 0] rfl (by simp (disch := (first | omega | (simp only [lnA, List.length_map, List.length_range, true_and, and_true]; (try omega); done) | fail)) only [go_sem, Int.reduceEq, Int.reduceToNat, Nat.reduceAdd, Nat.reduceMul, Nat.reduceEqDiff, ↓reduceIte, true_and, and_true, and_self, List.drop_zero, List.take_length, Nat.le_refl, V.lit.injEq, Value.int.injEq, Value.bool.injEq]; try (first | omega | (simp; done) | (simp; omega))) (by rw [hn2]; (simp (disch := (first | omega | (simp only [lnA, List.length_map, List.length_range, true_and, and_true]; (try omega); done) | fail)) only [go_sem, Int.reduceEq, Int.reduceToNat, Nat.reduceAdd, Nat.reduceMul, Nat.reduceEqDiff, ↓reduceIte, true_and, and_true, and_self, List.drop_zero, List.take_length, Nat.le_refl, V.lit.injEq, Value.int.injEq, Value.bool.injEq]; try (first | omega | (simp; done) | (simp; omega)))) (by omega) (by omega)
  · rw [show s.take i = s from List.take_of_length_le (by omega)]
    rcases hx with ⟨hL, z, pz⟩ | ⟨hL, z, e1, v, e2, pz, pv, lz, lv, h1, h2, hne⟩
    · rw [show cx s = -1 by unfold cx; rw [hL]; rfl]
      simp (maxSteps := 1000000) (disch := (first | omega | (simp only [lnA, List.length_map, List.length_range, true_and, and_true]; (try omega); done) | fail)) only [go_sem, Int.reduceEq, Int.reduceToNat, Nat.reduceAdd, Nat.reduceMul, Nat.reduceEqDiff, ↓reduceIte]
      refine callV0 (pz) rfl rfl ?_
      simp (maxSteps := 1000000) (disch := (first | omega | (simp only [lnA, List.length_map, List.length_range, true_and, and_true]; (try omega); done) | fail)) only [go_sem, Int.reduceEq, Int.reduceToNat, Nat.reduceAdd, Nat.reduceMul, Nat.reduceEqDiff, ↓reduceIte]
      exact endW [] hQ
    · have hlen : s.length = (cutA s).length + 1 + (cutB s).length := by
        have i2 := ((ix_cut s).2 hL).2
        conv => lhs; rw [i2]
        rw [List.length_append, List.length_cons]
        omega
      have t1 : s.take (cutA s).length = cutA s := by
        have h : ∀ A B : List UInt8, s = A ++ 47 :: B → s.take A.length = A := fun A B e => by rw [e]; simp
        exact h _ _ ((ix_cut s).2 hL).2
      have t2 : s.drop ((cutA s).length + 1) = cutB s := by
        have h : ∀ A B : List UInt8, s = A ++ 47 :: B → s.drop (A.length + 1) = B := fun A B e => by rw [e]; simp [List.drop_append]
        exact h _ _ ((ix_cut s).2 hL).2
      have t3 : s.drop (((cutA s).length : Int) + 1).toNat = cutB s := by
        rw [show (((cutA s).length : Int) + 1).toNat = (cutA s).length + 1 by omega]
        exact t2
      have t4 : s.take s.length = s := List.take_length
      rw [show cx s = ((cutA s).length : Int) by unfold cx; rw [hL]; rfl]
      generalize cutA s = A at *
      generalize cutB s = B at *
      by_cases he : e1 = 0 ∧ e2 = 0
      · obtain ⟨rfl, rfl⟩ := he
        have hz := zero_fn (n := v) (by omega)
        by_cases hv : v = 0
        · rw [decide_eq_true hv] at hz
          repeat (first | (refine callV0 (pz) rfl rfl ?_) | (refine callV0 (pv) rfl rfl ?_) | (refine callV0 (hz) rfl rfl ?_) | (simp (maxSteps := 1000000) (disch := (first | omega | (simp only [lnA, List.length_map, List.length_range, true_and, and_true]; (try omega); done) | fail)) only [go_sem, t1, t3, t4, Int.reduceEq, Int.reduceToNat, Nat.reduceAdd, Nat.reduceMul, Nat.reduceEqDiff, ↓reduceIte]))
          exact endW [] hQ
        · rw [decide_eq_false hv] at hz
          have mq := must2_fn (p := z) hv lz lv
          have tq := rtxt_fn ((RS_mk (n := z) hv (by omega) (by omega)).mono (show 2000 ≤ 5000 by decide))
          have hqd := decide_eq_false (hne rfl rfl hv)
          generalize qS (mkRat z v) = s' at *
          generalize mkRat z v = y at *
          repeat (first | (refine callV0 (pz) rfl rfl ?_) | (refine callV0 (pv) rfl rfl ?_) | (refine callV0 (hz) rfl rfl ?_) | (refine callV0 (mq) rfl rfl ?_) | (refine callV0 (tq) rfl rfl ?_) | (simp (maxSteps := 1000000) (disch := (first | omega | (simp only [lnA, List.length_map, List.length_range, true_and, and_true]; (try omega); done) | fail)) only [go_sem, t1, t3, t4, hqd, Int.reduceEq, Int.reduceToNat, Nat.reduceAdd, Nat.reduceMul, Nat.reduceEqDiff, ↓reduceIte]))
          exact endW [] hQ
      · by_cases he1 : e1 = 0
        · obtain rfl : e2 = 4 := by omega
          subst he1
          repeat (first | (refine callV0 (pz) rfl rfl ?_) | (refine callV0 (pv) rfl rfl ?_) | (simp (maxSteps := 1000000) (disch := (first | omega | (simp only [lnA, List.length_map, List.length_range, true_and, and_true]; (try omega); done) | fail)) only [go_sem, t1, t3, t4, Int.reduceEq, Int.reduceToNat, Nat.reduceAdd, Nat.reduceMul, Nat.reduceEqDiff, ↓reduceIte]))
          exact endW [] hQ
        · obtain rfl : e1 = 4 := by omega
          repeat (first | (refine callV0 (pz) rfl rfl ?_) | (refine callV0 (pv) rfl rfl ?_) | (simp (maxSteps := 1000000) (disch := (first | omega | (simp only [lnA, List.length_map, List.length_range, true_and, and_true]; (try omega); done) | fail)) only [go_sem, t1, t3, t4, Int.reduceEq, Int.reduceToNat, Nat.reduceAdd, Nat.reduceMul, Nat.reduceEqDiff, ↓reduceIte]))
          exact endW [] hQ
end Go.Proofs.YthlndppcjcjmlaaGreatDoor
