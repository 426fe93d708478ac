import Derived.Test.YtfemchdaoihogaaZm
/-! Draws of a dead tape. -/
namespace Go.Proofs.Ytfemchdaoihogaa
open Go.Eng Go.Vx
set_option linter.unusedSimpArgs false
set_option linter.unusedVariables false
set_option maxRecDepth 100000
theorem ratioD_fn {L : List Bool} {P D p : Nat} (hL : L.length ≤ 1048576) (hD : ¬ (D = 0 ∨ D < P)) (hPD : P ≠ D) (hP : (wg P).length ≤ 500000) (hD1 : (wg D).length ≤ 500000) : Fn1 Try.prog 14 [.ref 0 0 0 0, NV P, NV D] [some (tpC L p true)]
    (.tup [.lit (.bool false), .lit (.int .i64 (if P = 0 then 0 else 8))]) [some (tpC L p true)] := by
  refine fn1_of pl14 (by kernel_rfl) Try.call14 Try.func14 rfl (by kernel_rfl) rfl [.tmp 6, .tmp 7] (by kernel_rfl) fun Q hQ => ?_
  simp (maxSteps := 1000000) (disch := (first | omega | (simp only [List.length_append, List.length_set, List.length_cons, List.length_nil, List.length_replicate, List.length_take, List.length_drop, List.length_map, List.length_range, true_and, and_true]; (try omega); done) | fail)) only [go_sem, Int.reduceEq, Int.reduceToNat, Nat.reduceAdd, Nat.reduceMul, Nat.reduceEqDiff, ↓reduceIte]
  refine callV0 (good_fn (P := P) (D := D) (by omega) (by omega)) rfl rfl ?_
  rw [decide_eq_true hD]
  simp (maxSteps := 1000000) (disch := (first | omega | (simp only [List.length_append, List.length_set, List.length_cons, List.length_nil, List.length_replicate, List.length_take, List.length_drop, List.length_map, List.length_range, true_and, and_true]; (try omega); done) | fail)) only [go_sem, Int.reduceEq, Int.reduceToNat, Nat.reduceAdd, Nat.reduceMul, Nat.reduceEqDiff, ↓reduceIte]
  refine callV0 (zero_fn (n := P) (by omega)) rfl rfl ?_
  by_cases h2 : P = 0
  · rw [decide_eq_true h2]
    rw [if_pos h2] at hQ
    simp (maxSteps := 1000000) (disch := (first | omega | (simp only [List.length_append, List.length_set, List.length_cons, List.length_nil, List.length_replicate, List.length_take, List.length_drop, List.length_map, List.length_range, true_and, and_true]; (try omega); done) | fail)) only [go_sem, Int.reduceEq, Int.reduceToNat, Nat.reduceAdd, Nat.reduceMul, Nat.reduceEqDiff, ↓reduceIte]
    exact endW [some 0] hQ
  · rw [decide_eq_false h2]
    rw [if_neg h2] at hQ
    simp (maxSteps := 1000000) (disch := (first | omega | (simp only [List.length_append, List.length_set, List.length_cons, List.length_nil, List.length_replicate, List.length_take, List.length_drop, List.length_map, List.length_range, true_and, and_true]; (try omega); done) | fail)) only [go_sem, Int.reduceEq, Int.reduceToNat, Nat.reduceAdd, Nat.reduceMul, Nat.reduceEqDiff, ↓reduceIte]
    refine LoopV_of (X := Unit) (st := fun z => ([(0, .ref 0 0 0 0), (4, .ref 1 0 0 0), (5, .ref 2 0 0 0), (8, .ref 3 0 0 0)], [some (tpC L p true), some (.cells [.row 1 ((nl (wg P)).map (ie .u64))]), some (.cells [.row 1 ((nl (wg D)).map (ie .u64))]), some (.cells [.row 1 ((nl (wg P)).map (ie .u64))])]))
      (inv := fun _ => True) (m := fun _ => 0) () [some 0, some 1, some 2, some 3] rfl (by simp (disch := (first | omega | (simp only [List.length_append, List.length_set, List.length_cons, List.length_nil, List.length_replicate, List.length_take, List.length_drop, List.length_map, List.length_range, true_and, and_true]; (try omega); done) | fail)) only [go_sem, Int.reduceEq, Int.reduceToNat, Nat.reduceAdd, Nat.reduceMul, Nat.reduceEqDiff, ↓reduceIte, true_and, and_true, and_self, List.drop_zero, List.take_length, Nat.le_refl, V.lit.injEq, Value.int.injEq, Value.bool.injEq]; try (first | omega | (simp; done) | (simp; omega))) (by simp (disch := (first | omega | (simp only [List.length_append, List.length_set, List.length_cons, List.length_nil, List.length_replicate, List.length_take, List.length_drop, List.length_map, List.length_range, true_and, and_true]; (try omega); done) | fail)) only [go_sem, Int.reduceEq, Int.reduceToNat, Nat.reduceAdd, Nat.reduceMul, Nat.reduceEqDiff, ↓reduceIte, true_and, and_true, and_self, List.drop_zero, List.take_length, Nat.le_refl, V.lit.injEq, Value.int.injEq, Value.bool.injEq]; try (first | omega | (simp; done) | (simp; omega))) trivial ?_
    intro _ _
    have hc := cmpI_neg.2 (show P < D by omega)
    simp (maxSteps := 1000000) (disch := (first | omega | (simp only [List.length_append, List.length_set, List.length_cons, List.length_nil, List.length_replicate, List.length_take, List.length_drop, List.length_map, List.length_range, true_and, and_true]; (try omega); done) | fail)) only [go_sem, Int.reduceEq, Int.reduceToNat, Nat.reduceAdd, Nat.reduceMul, Nat.reduceEqDiff, ↓reduceIte]
    refine callV0 (ncmp_fn (a := P) (b := D) (by omega) (by omega)) rfl rfl ?_
    simp (maxSteps := 1000000) (disch := (first | omega | (simp only [List.length_append, List.length_set, List.length_cons, List.length_nil, List.length_replicate, List.length_take, List.length_drop, List.length_map, List.length_range, true_and, and_true]; (try omega); done) | fail)) only [go_sem, decide_eq_true hc, Int.reduceEq, Int.reduceToNat, Nat.reduceAdd, Nat.reduceMul, Nat.reduceEqDiff, ↓reduceIte]
    refine callW [some 0] [] (flipE_fn (L := L) (p := p) (d := true) hL (.inl rfl)) ?_
    simp (maxSteps := 1000000) (disch := (first | omega | (simp only [List.length_append, List.length_set, List.length_cons, List.length_nil, List.length_replicate, List.length_take, List.length_drop, List.length_map, List.length_range, true_and, and_true]; (try omega); done) | fail)) only [go_sem, Int.reduceEq, Int.reduceToNat, Nat.reduceAdd, Nat.reduceMul, Nat.reduceEqDiff, ↓reduceIte]
    exact endW [some 0] hQ
theorem binomD_fn {L : List Bool} {p Y : Nat} (hL : L.length ≤ 1048576) (hY : Y < 9223372036854775807) : Fn1 Try.prog 31 [.ref 0 0 0 0, .lit (.int .i64 (Y : Int))] [some (tpC L p true)]
    (.tup [.lit (.int .i64 0), .lit (.int .i64 (if Y = 0 then 0 else 8))]) [some (tpC L p true)] := by
  refine fn1_of pl31 (by kernel_rfl) Try.call31 Try.func31 rfl (by kernel_rfl) rfl [.tmp 4, .tmp 5] (by kernel_rfl) fun Q hQ => ?_
  have hy : max 0 (Y : Int) = (Y : Int) := by omega
  simp (maxSteps := 1000000) (disch := (first | omega | (simp only [List.length_append, List.length_set, List.length_cons, List.length_nil, List.length_replicate, List.length_take, List.length_drop, List.length_map, List.length_range, true_and, and_true]; (try omega); done) | fail)) only [go_sem, hy, Int.reduceEq, Int.reduceToNat, Nat.reduceAdd, Nat.reduceMul, Nat.reduceEqDiff, ↓reduceIte]
  refine LoopV_of (X := Unit) (st := fun i => ([(0, .ref 0 0 0 0), (6, .lit (.int .i64 0)), (10, .lit (.int .i64 (Y : Int))), (11, .lit (.int .i64 0))], [some (tpC L p true)]))
    (inv := fun i => True) (m := fun i => 0) () [some 0] rfl (by simp (disch := (first | omega | (simp only [List.length_append, List.length_set, List.length_cons, List.length_nil, List.length_replicate, List.length_take, List.length_drop, List.length_map, List.length_range, true_and, and_true]; (try omega); done) | fail)) only [go_sem, Int.reduceEq, Int.reduceToNat, Nat.reduceAdd, Nat.reduceMul, Nat.reduceEqDiff, ↓reduceIte, true_and, and_true, and_self, List.drop_zero, List.take_length, Nat.le_refl, V.lit.injEq, Value.int.injEq, Value.bool.injEq]; try (first | omega | (simp; done) | (simp; omega))) (by simp (disch := (first | omega | (simp only [List.length_append, List.length_set, List.length_cons, List.length_nil, List.length_replicate, List.length_take, List.length_drop, List.length_map, List.length_range, true_and, and_true]; (try omega); done) | fail)) only [go_sem, Int.reduceEq, Int.reduceToNat, Nat.reduceAdd, Nat.reduceMul, Nat.reduceEqDiff, ↓reduceIte, true_and, and_true, and_self, List.drop_zero, List.take_length, Nat.le_refl, V.lit.injEq, Value.int.injEq, Value.bool.injEq]; try (first | omega | (simp; done) | (simp; omega))) trivial ?_
  intro _ _
  by_cases h : Y = 0
  · rw [if_pos h] at hQ
    simp (maxSteps := 1000000) (disch := (first | omega | (simp only [List.length_append, List.length_set, List.length_cons, List.length_nil, List.length_replicate, List.length_take, List.length_drop, List.length_map, List.length_range, true_and, and_true]; (try omega); done) | fail)) only [go_sem, Int.reduceEq, Int.reduceToNat, Nat.reduceAdd, Nat.reduceMul, Nat.reduceEqDiff, ↓reduceIte]
    exact endW [some 0] hQ
  · rw [if_neg h] at hQ
    simp (maxSteps := 1000000) (disch := (first | omega | (simp only [List.length_append, List.length_set, List.length_cons, List.length_nil, List.length_replicate, List.length_take, List.length_drop, List.length_map, List.length_range, true_and, and_true]; (try omega); done) | fail)) only [go_sem, Int.reduceEq, Int.reduceToNat, Nat.reduceAdd, Nat.reduceMul, Nat.reduceEqDiff, ↓reduceIte]
    refine callW [some 0] [] (flipE_fn (L := L) (p := p) (d := true) hL (.inl rfl)) ?_
    simp (maxSteps := 1000000) (disch := (first | omega | (simp only [List.length_append, List.length_set, List.length_cons, List.length_nil, List.length_replicate, List.length_take, List.length_drop, List.length_map, List.length_range, true_and, and_true]; (try omega); done) | fail)) only [go_sem, Int.reduceEq, Int.reduceToNat, Nat.reduceAdd, Nat.reduceMul, Nat.reduceEqDiff, ↓reduceIte]
    exact endW [some 0] hQ
theorem leftT_fn {L : List Bool} (hL : L.length ≤ 1048576) : Fn1 Try.prog 35 [tpP L 0 false] [] (.lit (.int .i64 (L.length : Int))) [] := by
  refine fn1_of pl35 (by kernel_rfl) Try.call35 Try.func35 rfl (by kernel_rfl) rfl [.tmp 2] (by kernel_rfl) fun Q hQ => ?_
  simp (maxSteps := 1000000) (disch := (first | omega | (simp only [List.length_append, List.length_set, List.length_cons, List.length_nil, List.length_replicate, List.length_take, List.length_drop, List.length_map, List.length_range, true_and, and_true]; (try omega); done) | fail)) only [go_sem, Int.reduceEq, Int.reduceToNat, Nat.reduceAdd, Nat.reduceMul, Nat.reduceEqDiff, ↓reduceIte]
  exact endW [] hQ
theorem belowS {L : List Bool} {n : Nat} (hL : L.length ≤ 1048576) (hn : 0 < n) (hn2 : n < 18446744073709551616) : ∃ (a : Nat) (e : Int) (q : Nat) (d : Bool), Fn1 Try.prog 29 [.ref 0 0 0 0, .lit (.int .u64 (n : Int))] [some (tpC L 0 false)] (.tup [.lit (.int .u64 (a : Int)), .lit (.int .i64 e)]) [some (tpC L q d)] ∧ a < n ∧ q ≤ L.length ∧ (e = 0 ∧ d = false ∨ e = 8 ∧ d = true) := by
  have h := below_fn (L := L) (n := n) (p := 0) hL (Nat.zero_le _) hn hn2
  have he := belowX_end (L := L) (n := n) (Nat.zero_le _)
  refine ⟨_, _, _, _, h, ?_, he.2, ?_⟩
  · rcases belowX_cases (L := L) (p := 0) hn with e | ⟨x, q, hx, e⟩
    · rw [e]; exact hn
    · rw [e]; exact hx
  · rcases belowX_cases (L := L) (p := 0) hn with e | ⟨x, q, hx, e⟩
    · rw [e]; exact .inr ⟨rfl, rfl⟩
    · rw [e]; exact .inl ⟨rfl, rfl⟩
theorem binomS {L : List Bool} {p Y : Nat} (d : Bool) (hL : L.length ≤ 1048576) (hp : p ≤ L.length) (hY : Y ≤ 1000) : ∃ (b : Nat) (f : Int) (q : Nat) (d' : Bool), Fn1 Try.prog 31 [.ref 0 0 0 0, .lit (.int .i64 (Y : Int))] [some (tpC L p d)] (.tup [.lit (.int .i64 (b : Int)), .lit (.int .i64 f)]) [some (tpC L q d')] ∧ b ≤ Y ∧ q ≤ L.length ∧ (f = 0 ∧ d' = d ∧ (d = true → Y = 0) ∨ f = 8 ∧ d' = true ∧ 0 < Y) := by
  cases d with
  | true =>
    have h := binomD_fn (L := L) (p := p) (Y := Y) hL (by omega)
    refine ⟨0, _, p, true, h, Nat.zero_le _, hp, ?_⟩
    by_cases h0 : Y = 0
    · exact .inl ⟨if_pos h0, rfl, fun _ => h0⟩
    · exact .inr ⟨if_neg h0, rfl, by omega⟩
  | false =>
    have h := binom_fn (L := L) (p := p) (Y := Y) (y := (Y : Int)) hL hp (by omega) (by omega)
    have hc := cT_le ((L.drop p).take Y)
    rw [List.length_take] at hc
    by_cases h0 : p + Y ≤ L.length
    · have e : binX L Y p = _ := if_pos h0
      rw [e] at h
      exact ⟨_, _, _, _, h, by omega, h0, .inl ⟨rfl, rfl, fun h => by cases h⟩⟩
    · have e : binX L Y p = _ := if_neg h0
      rw [e] at h
      exact ⟨0, _, _, _, h, Nat.zero_le _, Nat.le_refl _, .inr ⟨rfl, rfl, by omega⟩⟩
theorem roundS {L : List Bool} {p Y n : Nat} (d : Bool) (hL : L.length ≤ 1048576) (hp : p ≤ L.length) (hY : Y ≤ 1000) (hn : n ≠ 0) (hn2 : n ≤ 1000000) : ∃ (c : Nat) (g : Int) (q : Nat) (d' : Bool), Fn1 Try.prog 27 [.ref 0 0 0 0, RV (((Y : Int) : Rat) / ((n : Int) : Rat))] [some (tpC L p d)] (.tup [.lit (.int .i64 (c : Int)), .lit (.int .i64 g)]) [some (tpC L q d')] ∧ c ≤ Y / n + 1 ∧ (g = 0 ∧ d' = d ∨ g = 8 ∧ d' = true) := by
  have hml := Nat.mod_lt Y (show 0 < n by omega)
  cases d with
  | false =>
    have h := draws_frac (L := L) (A := Y) (B := n) (p := p) hL hp hn (by omega) (by omega)
    unfold rndN at h
    rcases ratX_cases (L := L) (P := Y % n) (D := n) (p := p) (by unfold goodB; omega) hp with e | ⟨b, q, e, _, _⟩
    · rw [e] at h
      exact ⟨0, 8, _, _, h, Nat.zero_le _, .inr ⟨rfl, rfl⟩⟩
    · rw [e] at h
      refine ⟨_, 0, _, _, h, ?_, .inl ⟨rfl, rfl⟩⟩
      simp only [if_true]
      cases b <;> simp
  | true =>
    obtain ⟨b1, b2⟩ := frac_bounds (A := Y) hn (by omega)
    have hs : RS (1 + 1) (((Y : Int) : Rat) / ((n : Int) : Rat)) := RS_div (by decide) (RS_one (by omega) (by omega)) (RS_one (by omega) (by omega))
    have hnn := num_nonnegR (A := Y) hn
    have hnd : Y / n = (((Y : Int) : Rat) / ((n : Int) : Rat)).num.natAbs / (((Y : Int) : Rat) / ((n : Int) : Rat)).den := by
      have h := frac_eq (p := (Y : Int)) (q := (n : Int)) (by omega)
      rw [decide_eq_false (show ¬ (Y : Int) < 0 by omega), decide_eq_false (show ¬ (n : Int) < 0 by omega)] at h
      rw [← h, Int.natAbs_natCast, Int.natAbs_natCast]
      show _ = (mkRat (Y : Int) n).num.natAbs / (mkRat (Y : Int) n).den
      rw [mkRat_numG hn, mkRat_denG hn, sg_abs, Int.natAbs_natCast]
      have hg : 0 < Nat.gcd Y n := Nat.gcd_pos_of_pos_right _ (by omega)
      have h2 := Nat.mul_div_mul_left (Y / Nat.gcd Y n) (n / Nat.gcd Y n) hg
      rwa [Nat.mul_div_cancel' (Nat.gcd_dvd_left Y n), Nat.mul_div_cancel' (Nat.gcd_dvd_right Y n)] at h2
    rw [hnd]
    generalize ((Y : Int) : Rat) / ((n : Int) : Rat) = x at *
    have hrs := rest_RS (hs.mono (show 1 + 1 ≤ 100000 by decide))
    have hre := rest_eq hnn
    have hm := Nat.mod_lt x.num.natAbs (Nat.pos_of_ne_zero x.den_nz)
    have hgp : 0 < Nat.gcd (x.num.natAbs % x.den) x.den := Nat.gcd_pos_of_pos_right _ (Nat.pos_of_ne_zero x.den_nz)
    have hnum : (x - ((x.floor : Int) : Rat)).num.natAbs < (x - ((x.floor : Int) : Rat)).den := by
      rw [hre, mkRat_numG x.den_nz, mkRat_denG x.den_nz, sg_abs, Int.natAbs_natCast]
      exact Nat.div_lt_div_of_lt_of_dvd (Nat.gcd_dvd_right _ _) hm
    have hr := ratioD_fn (L := L) (P := (x - ((x.floor : Int) : Rat)).num.natAbs) (D := (x - ((x.floor : Int) : Rat)).den) (p := p) hL (by omega) (by omega) (Nat.le_trans hrs.1 (by decide)) (Nat.le_trans hrs.2 (by decide))
    have h := droundG_fn (hs.mono (show 1 + 1 ≤ 100000 by decide)) b1 b2 hr
    by_cases h0 : (x - ((x.floor : Int) : Rat)).num.natAbs = 0
    · rw [if_pos h0] at h
      refine ⟨_, 0, _, _, h, ?_, .inl ⟨rfl, rfl⟩⟩
      simp
    · rw [if_neg h0] at h
      exact ⟨0, 8, _, _, h, Nat.zero_le _, .inr ⟨rfl, rfl⟩⟩
end Go.Proofs.Ytfemchdaoihogaa
