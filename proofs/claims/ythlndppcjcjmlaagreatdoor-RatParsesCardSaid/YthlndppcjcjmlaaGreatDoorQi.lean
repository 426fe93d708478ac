import Derived.Test.YthlndppcjcjmlaaGreatDoorQh
/-! RatParses. -/
namespace Go.Vx
open Go.Eng
section
variable {A B : Bool → Prop} {p : Prop} [Decidable p] {F : FV} {x y : V}
@[go_sem ↓] theorem gdV_nnegf (h : ¬ p) : gdV (.lit (.bool (!decide p))) false A B = B true := by simp [gdV, h]
@[go_sem ↓] theorem pickV_npos (h : p) : pickV (.lit (.bool (!decide p))) x y F = F true y := by simp [pickV, h]
@[go_sem ↓] theorem pickV_nneg (h : ¬ p) : pickV (.lit (.bool (!decide p))) x y F = F true x := by simp [pickV, h]
end
theorem joinV {T G : Prop} (f : Hid T → G) (t : T) : G := f ⟨t⟩
end Go.Vx
namespace Go.Proofs.YthlndppcjcjmlaaGreatDoor
open Go.Eng Go.Vx
set_option linter.unusedSimpArgs false
set_option linter.unusedVariables false
set_option maxRecDepth 100000
/-- What nat.Parse answers. -/
theorem nparse_of {s : List UInt8} (hs : s.length ≤ 2000) : ∃ (v : Nat) (e : Int), Fn1 Tryz.prog 34 [.lit (.string (bs s))] [] (.tup [NV v, .lit (.int .i64 e)]) [] ∧ (e = 0 ∨ (e = 4 ∧ v = 0)) ∧ (wg v).length ≤ s.length := by
  by_cases hok : okT s
  · exact ⟨valD s, 0, nparse_fn hs hok, .inl rfl, wg_len (Nat.lt_of_lt_of_le (valD_lt (List.all_eq_true.1 hok.2.2)) (Nat.pow_le_pow_left (by decide) s.length))⟩
  · exact ⟨0, 4, nparseB_fn hs hok, .inr ⟨rfl, rfl⟩, by rw [wg_zero]; simp⟩
/-- What whole.Parse answers. -/
theorem wparse_e {s : List UInt8} (hs : s.length ≤ 2000) : ∃ (z : Int) (e : Int), Fn1 Tryz.prog 33 [.lit (.string (bs s))] [] (.tup [WV z, .lit (.int .i64 e)]) [] ∧ ((e = 0 ∧ zS z = s) ∨ (e = 4 ∧ z = 0)) ∧ (wg z.natAbs).length ≤ 2000 := by
  obtain ⟨z, e, p, k1, k2, l⟩ := wparse_of hs
  refine ⟨z, e, p, ?_, l⟩
  by_cases h : okZ s
  · exact .inl (k1 h)
  · exact .inr (k2 h)
set_option maxHeartbeats 8000000 in
/-- What rat.Parse answers. -/
theorem rparse_of {s : List UInt8} (hs : s.length ≤ 300) : ∃ (x : Rat) (e : Int), Fn1 Tryz.prog 20 [.lit (.string (bs s))] [] (.tup [RV x, .lit (.int .i64 e)]) [] ∧ RS 2001 x ∧
    ((e = 0 ∧ qS x = s) ∨ (e = 4 ∧ x = 0 ∧
      ((hasL s = false ∧ ∃ z, Fn1 Tryz.prog 33 [.lit (.string (bs s))] [] (.tup [WV z, .lit (.int .i64 4)]) []) ∨
       (hasL s = true ∧ ∃ (z : Int) (e1 : Int) (v : Nat) (e2 : Int), Fn1 Tryz.prog 33 [.lit (.string (bs (cutA s)))] [] (.tup [WV z, .lit (.int .i64 e1)]) [] ∧
          Fn1 Tryz.prog 34 [.lit (.string (bs (cutB s)))] [] (.tup [NV v, .lit (.int .i64 e2)]) [] ∧ (wg z.natAbs).length ≤ 2000 ∧ (wg v).length ≤ 2000 ∧ (e1 = 0 ∨ e1 = 4) ∧ (e2 = 0 ∨ e2 = 4) ∧ (e1 = 0 → e2 = 0 → v ≠ 0 → qS (mkRat z v) ≠ s))))) := by
  have c := cutl_fn (s := s) (by omega)
  have s0 : RS 2001 (0 : Rat) := (RS_small (z := 0) (by decide)).mono (by decide)
  cases hL : hasL s with
  | false =>
    obtain ⟨i1, i2⟩ := (ix_cut s).1 hL
    obtain ⟨z, e, p, hz, lz⟩ := wparse_e (s := s) (by omega)
    rw [hL, i2, if_neg (by decide)] at c
    rcases hz with ⟨rfl, hz⟩ | ⟨rfl, rfl⟩
    · refine ⟨(z : Rat), 0, ?_, RS_int (Nat.le_trans lz (by decide)) (by decide), .inl ⟨rfl, ?_⟩⟩
      · rw [RV_int]
        refine fn1N_of pl20 (by kernel_rfl) Tryz.call20 Tryz.func20 rfl (by kernel_rfl) rfl [.cell 2 31, .tmp 3] (by kernel_rfl) fun Q hQ => ?_
        repeat (first | (refine callV0 (c) rfl rfl ?_) | (refine callV0 (p) rfl rfl ?_) | (simp (maxSteps := 1000000) (disch := (first | omega | (simp only [lnA, List.length_map, List.length_range, true_and, and_true]; (try omega); done) | fail)) only [go_sem, Int.reduceEq, Int.reduceToNat, Nat.reduceAdd, Nat.reduceMul, Nat.reduceEqDiff, ↓reduceIte]))
        exact endW [] hQ
      · unfold qS
        rw [Rat.num_intCast, Rat.den_intCast, if_pos rfl, List.append_nil, hz]
    · refine ⟨0, 4, ?_, s0, .inr ⟨rfl, rfl, .inl ⟨rfl, _, p⟩⟩⟩
      rw [RV_zero]
      refine fn1N_of pl20 (by kernel_rfl) Tryz.call20 Tryz.func20 rfl (by kernel_rfl) rfl [.cell 2 31, .tmp 3] (by kernel_rfl) fun Q hQ => ?_
      repeat (first | (refine callV0 (c) rfl rfl ?_) | (refine callV0 (p) rfl rfl ?_) | (simp (maxSteps := 1000000) (disch := (first | omega | (simp only [lnA, List.length_map, List.length_range, true_and, and_true]; (try omega); done) | fail)) only [go_sem, Int.reduceEq, Int.reduceToNat, Nat.reduceAdd, Nat.reduceMul, Nat.reduceEqDiff, ↓reduceIte]))
      exact endW [] hQ
  | true =>
    obtain ⟨i1, i2⟩ := (ix_cut s).2 hL
    have hlen : s.length = (cutA s).length + 1 + (cutB s).length := by
      conv => lhs; rw [i2]
      rw [List.length_append, List.length_cons]
      omega
    obtain ⟨z, e, p, hz, lz⟩ := wparse_e (s := cutA s) (by omega)
    obtain ⟨v, e2, np, hv, lv⟩ := nparse_of (s := cutB s) (by omega)
    rw [hL, if_pos rfl] at c
    have h1 : e = 0 ∨ e = 4 := by rcases hz with h | h <;> omega
    have h2 : e2 = 0 ∨ e2 = 4 := by omega
    by_cases he1 : e = 0
    · subst he1
      by_cases he2 : e2 = 0
      · subst he2
        have wm := wmake_fn (b := false) (n := v) (by omega)
        rw [show sg false v = (v : Int) from rfl] at wm
        by_cases hv0 : v = 0
        · subst hv0
          have fr := rfrac0_fn (p := z)
          rw [show ((0 : Nat) : Int) = 0 from rfl] at wm
          refine ⟨0, 4, ?_, s0, .inr ⟨rfl, rfl, .inr ⟨rfl, z, 0, 0, 0, p, np, lz, by omega, h1, h2, fun _ _ h => absurd rfl h⟩⟩⟩
          generalize cutA s = A at *
          generalize cutB s = B at *
          have hr := RV_zero
          generalize (0 : Rat) = q0 at *
          refine fn1N_of pl20 (by kernel_rfl) Tryz.call20 Tryz.func20 rfl (by kernel_rfl) rfl [.cell 2 31, .tmp 3] (by kernel_rfl) fun Q hQ => ?_
          rw [hr] at hQ
          repeat (first | (refine callV0 (c) rfl rfl ?_) | (refine callV0 (p) rfl rfl ?_) | (refine callV0 (np) rfl rfl ?_) | (refine callV0 (wm) rfl rfl ?_) | (refine callV0 (fr) rfl rfl ?_) | (simp (maxSteps := 1000000) (disch := (first | omega | (simp only [lnA, List.length_map, List.length_range, true_and, and_true]; (try omega); done) | fail)) only [go_sem, Int.reduceEq, Int.reduceToNat, Nat.reduceAdd, Nat.reduceMul, Nat.reduceEqDiff, ↓reduceIte]))
          exact endW [] hQ
        · have fr := rfrac_fn (p := z) (q := (v : Int)) (by omega) (by omega) (by rw [Int.natAbs_natCast]; omega)
          rw [div_mk] at fr
          have sm : RS 2000 (mkRat z v) := RS_mk hv0 (by omega) (by omega)
          have t := rtxt_fn (sm.mono (show 2000 ≤ 5000 by decide))
          by_cases hq : qS (mkRat z v) = s
          · refine ⟨mkRat z v, 0, ?_, sm.mono (by decide), .inl ⟨rfl, hq⟩⟩
            rw [hq] at t
            generalize mkRat z v = x at *
            generalize cutA s = A at *
            generalize cutB s = B at *
            refine fn1N_of pl20 (by kernel_rfl) Tryz.call20 Tryz.func20 rfl (by kernel_rfl) rfl [.cell 2 31, .tmp 3] (by kernel_rfl) fun Q hQ => ?_
            repeat (first | (refine callV0 (c) rfl rfl ?_) | (refine callV0 (p) rfl rfl ?_) | (refine callV0 (np) rfl rfl ?_) | (refine callV0 (wm) rfl rfl ?_) | (refine callV0 (fr) rfl rfl ?_) | (refine callV0 (t) rfl rfl ?_) | (simp (maxSteps := 1000000) (disch := (first | omega | (simp only [lnA, List.length_map, List.length_range, true_and, and_true]; (try omega); done) | fail)) only [go_sem, eq_self, decide_true, Int.reduceEq, Int.reduceToNat, Nat.reduceAdd, Nat.reduceMul, Nat.reduceEqDiff, ↓reduceIte]))
            exact endW [] hQ
          · have hqd := decide_eq_false hq
            refine ⟨0, 4, ?_, s0, .inr ⟨rfl, rfl, .inr ⟨rfl, z, 0, v, 0, p, np, lz, by omega, h1, h2, fun _ _ _ => hq⟩⟩⟩
            rw [RV_zero]
            clear hq
            generalize qS (mkRat z v) = s' at *
            generalize mkRat z v = x at *
            generalize cutA s = A at *
            generalize cutB s = B at *
            refine fn1N_of pl20 (by kernel_rfl) Tryz.call20 Tryz.func20 rfl (by kernel_rfl) rfl [.cell 2 31, .tmp 3] (by kernel_rfl) fun Q hQ => ?_
            repeat (first | (refine callV0 (c) rfl rfl ?_) | (refine callV0 (p) rfl rfl ?_) | (refine callV0 (np) rfl rfl ?_) | (refine callV0 (wm) rfl rfl ?_) | (refine callV0 (fr) rfl rfl ?_) | (refine callV0 (t) rfl rfl ?_) | (simp (maxSteps := 1000000) (disch := (first | omega | (simp only [lnA, List.length_map, List.length_range, true_and, and_true]; (try omega); done) | fail)) only [go_sem, hqd, Int.reduceEq, Int.reduceToNat, Nat.reduceAdd, Nat.reduceMul, Nat.reduceEqDiff, ↓reduceIte]))
            exact endW [] hQ
      · obtain rfl : e2 = 4 := by omega
        refine ⟨0, 4, ?_, s0, .inr ⟨rfl, rfl, .inr ⟨rfl, z, 0, v, 4, p, np, lz, by omega, h1, h2, fun _ h => by omega⟩⟩⟩
        rw [RV_zero]
        generalize cutA s = A at *
        generalize cutB s = B at *
        refine fn1N_of pl20 (by kernel_rfl) Tryz.call20 Tryz.func20 rfl (by kernel_rfl) rfl [.cell 2 31, .tmp 3] (by kernel_rfl) fun Q hQ => ?_
        repeat (first | (refine callV0 (c) rfl rfl ?_) | (refine callV0 (p) rfl rfl ?_) | (refine callV0 (np) rfl rfl ?_) | (simp (maxSteps := 1000000) (disch := (first | omega | (simp only [lnA, List.length_map, List.length_range, true_and, and_true]; (try omega); done) | fail)) only [go_sem, Int.reduceEq, Int.reduceToNat, Nat.reduceAdd, Nat.reduceMul, Nat.reduceEqDiff, ↓reduceIte]))
        exact endW [] hQ
    · obtain rfl : e = 4 := by omega
      refine ⟨0, 4, ?_, s0, .inr ⟨rfl, rfl, .inr ⟨rfl, z, 4, v, e2, p, np, lz, by omega, h1, h2, fun h => by omega⟩⟩⟩
      rw [RV_zero]
      generalize cutA s = A at *
      generalize cutB s = B at *
      refine fn1N_of pl20 (by kernel_rfl) Tryz.call20 Tryz.func20 rfl (by kernel_rfl) rfl [.cell 2 31, .tmp 3] (by kernel_rfl) fun Q hQ => ?_
      repeat (first | (refine callV0 (c) rfl rfl ?_) | (refine callV0 (p) rfl rfl ?_) | (simp (maxSteps := 1000000) (disch := (first | omega | (simp only [lnA, List.length_map, List.length_range, true_and, and_true]; (try omega); done) | fail)) only [go_sem, Int.reduceEq, Int.reduceToNat, Nat.reduceAdd, Nat.reduceMul, Nat.reduceEqDiff, ↓reduceIte]))
      exact endW [] hQ
end Go.Proofs.YthlndppcjcjmlaaGreatDoor
