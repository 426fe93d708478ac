import Derived.Test.YthbcfjlalmhabaaWd
/-! Laws of bits: what is read. -/
namespace Go.Proofs.Ythbcfjlalmhabaa
open Go.Eng Go.Vx
set_option linter.unusedSimpArgs false
set_option linter.unusedVariables false
set_option maxRecDepth 100000
theorem rnumB_fn {B : List Int} {p : Nat} {w : Int} (hw : ¬ (0 ≤ w ∧ w ≤ 64)) : Fn1 Try.prog 23 [.ref 0 0 0 0, .lit (.int .i64 w)] [some (rdC B p)] (.tup [.lit (.int .u64 0), .lit (.int .i64 2)]) [some (rdC B p)] := by
  refine fn1_of pl23 (by kernel_rfl) Try.call23 Try.func23 rfl (by kernel_rfl) rfl [.tmp 4, .tmp 5] (by kernel_rfl) fun Q hQ => ?_
  simp (disch := (first | omega | (simp only [List.length_append, List.length_set, List.length_cons, List.length_nil, List.length_replicate, List.length_take, List.length_drop, List.length_map, List.length_range, true_and, and_true]; (try omega); done) | fail)) only [go_sem, Int.reduceEq, Int.reduceToNat, Nat.reduceAdd, Nat.reduceMul, Nat.reduceEqDiff, ↓reduceIte]
  refine callV0 (good_fn) rfl rfl ?_
  rw [decide_eq_false hw]
  simp (disch := (first | omega | (simp only [List.length_append, List.length_set, List.length_cons, List.length_nil, List.length_replicate, List.length_take, List.length_drop, List.length_map, List.length_range, true_and, and_true]; (try omega); done) | fail)) only [go_sem, Int.reduceEq, Int.reduceToNat, Nat.reduceAdd, Nat.reduceMul, Nat.reduceEqDiff, ↓reduceIte]
  exact endW [some 0] hQ
theorem rnumX_fn {B : List Int} {p : Nat} {w : Int} (hI : IsB B) (hB : B.length ≤ 1099511627776) (hp : p ≤ 8 * B.length) : Fn1 Try.prog 23 [.ref 0 0 0 0, .lit (.int .i64 w)] [some (rdC B p)]
    (.tup [.lit (.int .u64 ((rX (bitsOf B) p w).1 : Int)), .lit (.int .i64 (rX (bitsOf B) p w).2.2)]) [some (rdC B (rX (bitsOf B) p w).2.1)] := by
  unfold rX
  have hbl := bitsOf_len B
  by_cases hw : 0 ≤ w ∧ w ≤ 64
  · obtain ⟨m, rfl⟩ := Int.eq_ofNat_of_zero_le hw.1
    simp only [if_pos hw, Int.toNat_natCast]
    by_cases h2 : p + m ≤ (bitsOf B).length
    · simp only [if_pos h2]
      exact rnum_fn hI hB (by omega) (by omega)
    · simp only [if_neg h2]
      exact rnumE_fn hI hB (by omega) (by omega) hp
  · simp only [if_neg hw]
    exact rnumB_fn hw
theorem refGetX_fn {L : List Bool} {p : Nat} {w : Int} (hL : L.length ≤ 1099511627776) (hp : p ≤ L.length) : Fn1 Try.prog 33 [.row 1 (L.map be), .lit (.int .i64 (p : Int)), .lit (.int .i64 w)] []
    (.tup [.lit (.int .u64 ((rX L p w).1 : Int)), .lit (.int .i64 ((rX L p w).2.1 : Int)), .lit (.int .i64 (rX L p w).2.2)]) [] := by
  unfold rX
  by_cases hw : 0 ≤ w ∧ w ≤ 64
  · obtain ⟨m, rfl⟩ := Int.eq_ofNat_of_zero_le hw.1
    simp only [if_pos hw, Int.toNat_natCast]
    by_cases h2 : p + m ≤ L.length
    · simp only [if_pos h2]
      exact refGet_fn hL (by omega) h2
    · simp only [if_neg h2]
      refine fn1_of pl33 (by kernel_rfl) Try.call33 Try.func33 rfl (by kernel_rfl) rfl [.tmp 6, .tmp 7, .tmp 8] (by kernel_rfl) fun Q hQ => ?_
      simp (disch := (first | omega | (simp only [List.length_append, List.length_set, List.length_cons, List.length_nil, List.length_replicate, List.length_take, List.length_drop, List.length_map, List.length_range, true_and, and_true]; (try omega); done) | fail)) only [go_sem, Int.reduceEq, Int.reduceToNat, Nat.reduceAdd, Nat.reduceMul, Nat.reduceEqDiff, ↓reduceIte]
      exact endW [] hQ
  · simp only [if_neg hw]
    refine fn1_of pl33 (by kernel_rfl) Try.call33 Try.func33 rfl (by kernel_rfl) rfl [.tmp 6, .tmp 7, .tmp 8] (by kernel_rfl) fun Q hQ => ?_
    by_cases h0 : w < 0
    · simp (disch := (first | omega | (simp only [List.length_append, List.length_set, List.length_cons, List.length_nil, List.length_replicate, List.length_take, List.length_drop, List.length_map, List.length_range, true_and, and_true]; (try omega); done) | fail)) only [go_sem, Int.reduceEq, Int.reduceToNat, Nat.reduceAdd, Nat.reduceMul, Nat.reduceEqDiff, ↓reduceIte]
      exact endW [] hQ
    · simp (disch := (first | omega | (simp only [List.length_append, List.length_set, List.length_cons, List.length_nil, List.length_replicate, List.length_take, List.length_drop, List.length_map, List.length_range, true_and, and_true]; (try omega); done) | fail)) only [go_sem, Int.reduceEq, Int.reduceToNat, Nat.reduceAdd, Nat.reduceMul, Nat.reduceEqDiff, ↓reduceIte]
      exact endW [] hQ
theorem close_fn {B : List Int} {p : Nat} (hI : IsB B) (hB : B.length ≤ 1099511627776) (hp : p ≤ 8 * B.length) : Fn1 Try.prog 31 [.ref 0 0 0 0] [some (rdC B p)] (.lit (.int .i64 (closeX (bitsOf B) p))) [some (rdC B p)] := by
  refine fn1_of pl31 (by kernel_rfl) Try.call31 Try.func31 rfl (by kernel_rfl) rfl [.tmp 2] (by kernel_rfl) fun Q hQ => ?_
  have hbl := bitsOf_len B
  unfold closeX at hQ
  simp (disch := (first | omega | (simp only [List.length_append, List.length_set, List.length_cons, List.length_nil, List.length_replicate, List.length_take, List.length_drop, List.length_map, List.length_range, true_and, and_true]; (try omega); done) | fail)) only [go_sem, Int.reduceEq, Int.reduceToNat, Nat.reduceAdd, Nat.reduceMul, Nat.reduceEqDiff, ↓reduceIte]
  refine callW [some 0] [] (left_fn (B := B) (p := p) hB hp) ?_
  by_cases h8 : 8 ≤ (bitsOf B).length - p
  · rw [if_pos h8] at hQ
    simp (disch := (first | omega | (simp only [List.length_append, List.length_set, List.length_cons, List.length_nil, List.length_replicate, List.length_take, List.length_drop, List.length_map, List.length_range, true_and, and_true]; (try omega); done) | fail)) only [go_sem, Int.reduceEq, Int.reduceToNat, Nat.reduceAdd, Nat.reduceMul, Nat.reduceEqDiff, ↓reduceIte]
    exact endW [some 0] hQ
  · rw [if_neg h8] at hQ
    simp (disch := (first | omega | (simp only [List.length_append, List.length_set, List.length_cons, List.length_nil, List.length_replicate, List.length_take, List.length_drop, List.length_map, List.length_range, true_and, and_true]; (try omega); done) | fail)) only [go_sem, Int.reduceEq, Int.reduceToNat, Nat.reduceAdd, Nat.reduceMul, Nat.reduceEqDiff, ↓reduceIte]
    refine LoopV_of (X := Nat) (st := fun i => ([(3, .ref 1 0 0 0)], [some (rdC B p), some (rdC B (p + i))]))
      (inv := fun i => p + i ≤ 8 * B.length ∧ (((bitsOf B).drop p).take i).any id = false) (m := fun i => 8 * B.length - p - i) 0 [some 0, some 1] rfl (by simp (disch := (first | omega | (simp only [List.length_append, List.length_set, List.length_cons, List.length_nil, List.length_replicate, List.length_take, List.length_drop, List.length_map, List.length_range, true_and, and_true]; (try omega); done) | fail)) only [go_sem, Int.reduceEq, Int.reduceToNat, Nat.reduceAdd, Nat.reduceMul, Nat.reduceEqDiff, ↓reduceIte, true_and, and_true, and_self, List.drop_zero, List.take_length, Nat.le_refl, V.lit.injEq, Value.int.injEq, Value.bool.injEq]; try (first | omega | (simp; done) | (simp; omega))) (by simp (disch := (first | omega | (simp only [List.length_append, List.length_set, List.length_cons, List.length_nil, List.length_replicate, List.length_take, List.length_drop, List.length_map, List.length_range, true_and, and_true]; (try omega); done) | fail)) only [go_sem, Int.reduceEq, Int.reduceToNat, Nat.reduceAdd, Nat.reduceMul, Nat.reduceEqDiff, ↓reduceIte, true_and, and_true, and_self, List.drop_zero, List.take_length, Nat.le_refl, V.lit.injEq, Value.int.injEq, Value.bool.injEq]; try (first | omega | (simp; done) | (simp; omega))) ⟨by omega, by simp⟩ ?_
    rintro i ⟨hi, ha⟩
    simp (disch := (first | omega | (simp only [List.length_append, List.length_set, List.length_cons, List.length_nil, List.length_replicate, List.length_take, List.length_drop, List.length_map, List.length_range, true_and, and_true]; (try omega); done) | fail)) only [go_sem, Int.reduceEq, Int.reduceToNat, Nat.reduceAdd, Nat.reduceMul, Nat.reduceEqDiff, ↓reduceIte]
    refine callW [some 1] [] (left_fn (B := B) (p := p + i) hB (by omega)) ?_
    by_cases hil : p + i < 8 * B.length
    · simp (disch := (first | omega | (simp only [List.length_append, List.length_set, List.length_cons, List.length_nil, List.length_replicate, List.length_take, List.length_drop, List.length_map, List.length_range, true_and, and_true]; (try omega); done) | fail)) only [go_sem, Int.reduceEq, Int.reduceToNat, Nat.reduceAdd, Nat.reduceMul, Nat.reduceEqDiff, ↓reduceIte]
      refine callW [some 1] [] (next_fn (B := B) (p := p + i) hI hB hil) ?_
      cases hb : (bitsOf B).getD (p + i) false with
      | true =>
        rw [if_pos (any_of_get (by omega) hb)] at hQ
        simp (disch := (first | omega | (simp only [List.length_append, List.length_set, List.length_cons, List.length_nil, List.length_replicate, List.length_take, List.length_drop, List.length_map, List.length_range, true_and, and_true]; (try omega); done) | fail)) only [go_sem, hb, Bool.toNat_true, Int.reduceEq, Int.reduceToNat, Nat.reduceAdd, Nat.reduceMul, Nat.reduceEqDiff, ↓reduceIte]
        exact endW [some 0] hQ
      | false =>
        simp (disch := (first | omega | (simp only [List.length_append, List.length_set, List.length_cons, List.length_nil, List.length_replicate, List.length_take, List.length_drop, List.length_map, List.length_range, true_and, and_true]; (try omega); done) | fail)) only [go_sem, hb, Bool.toNat_false, Int.reduceEq, Int.reduceToNat, Nat.reduceAdd, Nat.reduceMul, Nat.reduceEqDiff, ↓reduceIte]
        refine nextW (i + 1) [some 0, some 1] ⟨by omega, any_snoc (by omega) hb ha⟩ (by omega)
    · simp (disch := (first | omega | (simp only [List.length_append, List.length_set, List.length_cons, List.length_nil, List.length_replicate, List.length_take, List.length_drop, List.length_map, List.length_range, true_and, and_true]; (try omega); done) | fail)) only [go_sem, Int.reduceEq, Int.reduceToNat, Nat.reduceAdd, Nat.reduceMul, Nat.reduceEqDiff, ↓reduceIte]
      rw [List.take_of_length_le (by simp; omega)] at ha
      rw [if_neg (by rw [ha]; simp)] at hQ
      exact endW [some 0] hQ
theorem refClose_fn {L : List Bool} {p : Nat} (hL : L.length ≤ 1099511627776) (hp : p ≤ L.length) : Fn1 Try.prog 34 [.row 1 (L.map be), .lit (.int .i64 (p : Int))] [] (.lit (.int .i64 (closeX L p))) [] := by
  refine fn1_of pl34 (by kernel_rfl) Try.call34 Try.func34 rfl (by kernel_rfl) rfl [.tmp 4] (by kernel_rfl) fun Q hQ => ?_
  unfold closeX at hQ
  by_cases h8 : 8 ≤ L.length - p
  · rw [if_pos h8] at hQ
    simp (disch := (first | omega | (simp only [List.length_append, List.length_set, List.length_cons, List.length_nil, List.length_replicate, List.length_take, List.length_drop, List.length_map, List.length_range, true_and, and_true]; (try omega); done) | fail)) only [go_sem, Int.reduceEq, Int.reduceToNat, Nat.reduceAdd, Nat.reduceMul, Nat.reduceEqDiff, ↓reduceIte]
    exact endW [] hQ
  · rw [if_neg h8] at hQ
    simp (disch := (first | omega | (simp only [List.length_append, List.length_set, List.length_cons, List.length_nil, List.length_replicate, List.length_take, List.length_drop, List.length_map, List.length_range, true_and, and_true]; (try omega); done) | fail)) only [go_sem, Int.reduceEq, Int.reduceToNat, Nat.reduceAdd, Nat.reduceMul, Nat.reduceEqDiff, ↓reduceIte]
    refine LoopV_of (X := Nat) (st := fun i => ([(0, .row 1 (L.map be)), (5, .lit (.int .i64 ((p + i : Nat) : Int)))], []))
      (inv := fun i => p + i ≤ L.length ∧ ((L.drop p).take i).any id = false) (m := fun i => L.length - p - i) 0 [] rfl (by simp (disch := (first | omega | (simp only [List.length_append, List.length_set, List.length_cons, List.length_nil, List.length_replicate, List.length_take, List.length_drop, List.length_map, List.length_range, true_and, and_true]; (try omega); done) | fail)) only [go_sem, Int.reduceEq, Int.reduceToNat, Nat.reduceAdd, Nat.reduceMul, Nat.reduceEqDiff, ↓reduceIte, true_and, and_true, and_self, List.drop_zero, List.take_length, Nat.le_refl, V.lit.injEq, Value.int.injEq, Value.bool.injEq]; try (first | omega | (simp; done) | (simp; omega))) (by simp (disch := (first | omega | (simp only [List.length_append, List.length_set, List.length_cons, List.length_nil, List.length_replicate, List.length_take, List.length_drop, List.length_map, List.length_range, true_and, and_true]; (try omega); done) | fail)) only [go_sem, Int.reduceEq, Int.reduceToNat, Nat.reduceAdd, Nat.reduceMul, Nat.reduceEqDiff, ↓reduceIte, true_and, and_true, and_self, List.drop_zero, List.take_length, Nat.le_refl, V.lit.injEq, Value.int.injEq, Value.bool.injEq]; try (first | omega | (simp; done) | (simp; omega))) ⟨by omega, by simp⟩ ?_
    rintro i ⟨hi, ha⟩
    by_cases hil : p + i < L.length
    · cases hb : L.getD (p + i) false with
      | true =>
        rw [if_pos (any_of_get (by omega) hb)] at hQ
        simp (disch := (first | omega | (simp only [List.length_append, List.length_set, List.length_cons, List.length_nil, List.length_replicate, List.length_take, List.length_drop, List.length_map, List.length_range, true_and, and_true]; (try omega); done) | fail)) only [go_sem, hb, Int.reduceEq, Int.reduceToNat, Nat.reduceAdd, Nat.reduceMul, Nat.reduceEqDiff, ↓reduceIte]
        exact endW [] hQ
      | false =>
        simp (disch := (first | omega | (simp only [List.length_append, List.length_set, List.length_cons, List.length_nil, List.length_replicate, List.length_take, List.length_drop, List.length_map, List.length_range, true_and, and_true]; (try omega); done) | fail)) only [go_sem, hb, Int.reduceEq, Int.reduceToNat, Nat.reduceAdd, Nat.reduceMul, Nat.reduceEqDiff, ↓reduceIte]
        refine nextW (i + 1) [] ⟨by omega, any_snoc (by omega) hb ha⟩ (by omega)
    · simp (disch := (first | omega | (simp only [List.length_append, List.length_set, List.length_cons, List.length_nil, List.length_replicate, List.length_take, List.length_drop, List.length_map, List.length_range, true_and, and_true]; (try omega); done) | fail)) only [go_sem, Int.reduceEq, Int.reduceToNat, Nat.reduceAdd, Nat.reduceMul, Nat.reduceEqDiff, ↓reduceIte]
      rw [List.take_of_length_le (by simp; omega)] at ha
      rw [if_neg (by rw [ha]; simp)] at hQ
      exact endW [] hQ
theorem rbitX_fn {B : List Int} {p : Nat} (hI : IsB B) (hB : B.length ≤ 1099511627776) (hp : p ≤ 8 * B.length) : Fn1 Try.prog 35 [.ref 0 0 0 0] [some (rdC B p)]
    (.tup [.lit (.bool (decide ((rX (bitsOf B) p 1).1 = 1))), .lit (.int .i64 (rX (bitsOf B) p 1).2.2)]) [some (rdC B (rX (bitsOf B) p 1).2.1)] := by
  refine fn1_of pl35 (by kernel_rfl) Try.call35 Try.func35 rfl (by kernel_rfl) rfl [.tmp 2, .tmp 3] (by kernel_rfl) fun Q hQ => ?_
  simp (disch := (first | omega | (simp only [List.length_append, List.length_set, List.length_cons, List.length_nil, List.length_replicate, List.length_take, List.length_drop, List.length_map, List.length_range, true_and, and_true]; (try omega); done) | fail)) only [go_sem, Int.reduceEq, Int.reduceToNat, Nat.reduceAdd, Nat.reduceMul, Nat.reduceEqDiff, ↓reduceIte]
  refine callW [some 0] [] (rnumX_fn (B := B) (p := p) (w := 1) hI hB hp) ?_
  simp (disch := (first | omega | (simp only [List.length_append, List.length_set, List.length_cons, List.length_nil, List.length_replicate, List.length_take, List.length_drop, List.length_map, List.length_range, true_and, and_true]; (try omega); done) | fail)) only [go_sem, Int.reduceEq, Int.reduceToNat, Nat.reduceAdd, Nat.reduceMul, Nat.reduceEqDiff, ↓reduceIte]
  rw [show decide (((rX (bitsOf B) p 1).1 : Int) = 1) = decide ((rX (bitsOf B) p 1).1 = 1) by rw [decide_eq_decide]; omega]
  exact endW [some 0] hQ
theorem bitsReads_fn {B ws : List Int} (hI : IsB B) (hB : B.length ≤ 9223372036854775807) (hW : ws.length ≤ 9223372036854775807) : Fn1 Try.prog 7 [.row 1 (B.map (ie .u8)), .row 1 (ws.map (ie .i64))] [] (.lit (.bool true)) [] := by
  refine fn1_of pl7 (by kernel_rfl) Try.call7 Try.func7 rfl (by kernel_rfl) rfl [.tmp 4] (by kernel_rfl) fun Q hQ => ?_
  simp (disch := (first | omega | (simp only [List.length_append, List.length_set, List.length_cons, List.length_nil, List.length_replicate, List.length_take, List.length_drop, List.length_map, List.length_range, true_and, and_true]; (try omega); done) | fail)) only [go_sem, Int.reduceEq, Int.reduceToNat, Nat.reduceAdd, Nat.reduceMul, Nat.reduceEqDiff, ↓reduceIte]
  refine callV0 (awake1_fn) rfl rfl ?_
  by_cases hl : 300 < B.length
  · simp (disch := (first | omega | (simp only [List.length_append, List.length_set, List.length_cons, List.length_nil, List.length_replicate, List.length_take, List.length_drop, List.length_map, List.length_range, true_and, and_true]; (try omega); done) | fail)) only [go_sem, Int.reduceEq, Int.reduceToNat, Nat.reduceAdd, Nat.reduceMul, Nat.reduceEqDiff, ↓reduceIte]
    have hI' : IsB (B.take 300) := fun x hx => hI x (List.mem_of_mem_take hx)
    have hB' : (B.take 300).length ≤ 300 := by simp; omega
    clear hI hl
    generalize B.take 300 = B' at *
    have hbl := bitsOf_len B'
    refine callW [] [] (read_fn (B := B') (by omega)) ?_
    simp (disch := (first | omega | (simp only [List.length_append, List.length_set, List.length_cons, List.length_nil, List.length_replicate, List.length_take, List.length_drop, List.length_map, List.length_range, true_and, and_true]; (try omega); done) | fail)) only [go_sem, Int.reduceEq, Int.reduceToNat, Nat.reduceAdd, Nat.reduceMul, Nat.reduceEqDiff, ↓reduceIte]
    refine callV0 (refBits_fn (B := B') hI' (by omega)) rfl rfl ?_
    simp (disch := (first | omega | (simp only [List.length_append, List.length_set, List.length_cons, List.length_nil, List.length_replicate, List.length_take, List.length_drop, List.length_map, List.length_range, true_and, and_true]; (try omega); done) | fail)) only [go_sem, Int.reduceEq, Int.reduceToNat, Nat.reduceAdd, Nat.reduceMul, Nat.reduceEqDiff, ↓reduceIte]
    refine LoopV_of (X := Nat × Nat) (st := fun x => ([(1, .row 1 (ws.map (ie .i64))), (5, .ref 0 0 0 0), (6, .row 1 ((bitsOf B').map be)), (7, .lit (.int .i64 (x.2 : Int))), (8, .lit (.int .i64 (x.1 : Int)))], [some (rdC B' x.2)]))
      (inv := fun x => x.1 ≤ 100 ∧ x.1 ≤ ws.length ∧ x.2 ≤ 8 * B'.length) (m := fun x => 100 - x.1) (0, 0) [some 0] rfl (by simp (disch := (first | omega | (simp only [List.length_append, List.length_set, List.length_cons, List.length_nil, List.length_replicate, List.length_take, List.length_drop, List.length_map, List.length_range, true_and, and_true]; (try omega); done) | fail)) only [go_sem, Int.reduceEq, Int.reduceToNat, Nat.reduceAdd, Nat.reduceMul, Nat.reduceEqDiff, ↓reduceIte, true_and, and_true, and_self, List.drop_zero, List.take_length, Nat.le_refl, V.lit.injEq, Value.int.injEq, Value.bool.injEq]; try (first | omega | (simp; done) | (simp; omega))) (by simp (disch := (first | omega | (simp only [List.length_append, List.length_set, List.length_cons, List.length_nil, List.length_replicate, List.length_take, List.length_drop, List.length_map, List.length_range, true_and, and_true]; (try omega); done) | fail)) only [go_sem, Int.reduceEq, Int.reduceToNat, Nat.reduceAdd, Nat.reduceMul, Nat.reduceEqDiff, ↓reduceIte, true_and, and_true, and_self, List.drop_zero, List.take_length, Nat.le_refl, V.lit.injEq, Value.int.injEq, Value.bool.injEq]; try (first | omega | (simp; done) | (simp; omega))) ⟨by omega, by omega, by omega⟩ ?_
    rintro ⟨i, p⟩ ⟨hi, hiw, hp⟩
    simp only at hi hiw hp
    dsimp only
    by_cases hil : i < ws.length ∧ i < 100
    · obtain ⟨hil, hi1⟩ := hil
      have hle := rX_le (L := bitsOf B') (p := p) (w := ws.getD i 0) (by omega)
      simp (disch := (first | omega | (simp only [List.length_append, List.length_set, List.length_cons, List.length_nil, List.length_replicate, List.length_take, List.length_drop, List.length_map, List.length_range, true_and, and_true]; (try omega); done) | fail)) only [go_sem, Int.reduceEq, Int.reduceToNat, Nat.reduceAdd, Nat.reduceMul, Nat.reduceEqDiff, ↓reduceIte]
      refine callW [some 0] [] (rnumX_fn (B := B') (p := p) (w := ws.getD i 0) hI' (by omega) hp) ?_
      simp (disch := (first | omega | (simp only [List.length_append, List.length_set, List.length_cons, List.length_nil, List.length_replicate, List.length_take, List.length_drop, List.length_map, List.length_range, true_and, and_true]; (try omega); done) | fail)) only [go_sem, Int.reduceEq, Int.reduceToNat, Nat.reduceAdd, Nat.reduceMul, Nat.reduceEqDiff, ↓reduceIte]
      refine callV0 (refGetX_fn (L := bitsOf B') (p := p) (w := ws.getD i 0) (by omega) (by omega)) rfl rfl ?_
      generalize rX (bitsOf B') p (ws.getD i 0) = q at *
      simp (disch := (first | omega | (simp only [List.length_append, List.length_set, List.length_cons, List.length_nil, List.length_replicate, List.length_take, List.length_drop, List.length_map, List.length_range, true_and, and_true]; (try omega); done) | fail)) only [go_sem, Int.reduceEq, Int.reduceToNat, Nat.reduceAdd, Nat.reduceMul, Nat.reduceEqDiff, ↓reduceIte]
      refine callW [some 0] [] (left_fn (B := B') (p := q.2.1) (by omega) (by omega)) ?_
      simp (disch := (first | omega | (simp only [List.length_append, List.length_set, List.length_cons, List.length_nil, List.length_replicate, List.length_take, List.length_drop, List.length_map, List.length_range, true_and, and_true]; (try omega); done) | fail)) only [go_sem, Int.reduceEq, Int.reduceToNat, Nat.reduceAdd, Nat.reduceMul, Nat.reduceEqDiff, ↓reduceIte]
      refine callW [some 0] [] (close_fn (B := B') (p := q.2.1) hI' (by omega) (by omega)) ?_
      simp (disch := (first | omega | (simp only [List.length_append, List.length_set, List.length_cons, List.length_nil, List.length_replicate, List.length_take, List.length_drop, List.length_map, List.length_range, true_and, and_true]; (try omega); done) | fail)) only [go_sem, Int.reduceEq, Int.reduceToNat, Nat.reduceAdd, Nat.reduceMul, Nat.reduceEqDiff, ↓reduceIte]
      refine callV0 (refClose_fn (L := bitsOf B') (p := q.2.1) (by omega) (by omega)) rfl rfl ?_
      simp (disch := (first | omega | (simp only [List.length_append, List.length_set, List.length_cons, List.length_nil, List.length_replicate, List.length_take, List.length_drop, List.length_map, List.length_range, true_and, and_true]; (try omega); done) | fail)) only [go_sem, Int.reduceEq, Int.reduceToNat, Nat.reduceAdd, Nat.reduceMul, Nat.reduceEqDiff, ↓reduceIte]
      exact nextW (i + 1, q.2.1) [some 0] ⟨by simp only; omega, by simp only; omega, by simp only; omega⟩ (by simp only; omega)
    · by_cases h1 : i < ws.length
      · have h2 : ¬ i < 100 := fun h => hil ⟨h1, h⟩
        simp (disch := (first | omega | (simp only [List.length_append, List.length_set, List.length_cons, List.length_nil, List.length_replicate, List.length_take, List.length_drop, List.length_map, List.length_range, true_and, and_true]; (try omega); done) | fail)) only [go_sem, Int.reduceEq, Int.reduceToNat, Nat.reduceAdd, Nat.reduceMul, Nat.reduceEqDiff, ↓reduceIte]
        refine callW [some 0] [] (rbitX_fn (B := B') (p := p) hI' (by omega) hp) ?_
        simp (disch := (first | omega | (simp only [List.length_append, List.length_set, List.length_cons, List.length_nil, List.length_replicate, List.length_take, List.length_drop, List.length_map, List.length_range, true_and, and_true]; (try omega); done) | fail)) only [go_sem, Int.reduceEq, Int.reduceToNat, Nat.reduceAdd, Nat.reduceMul, Nat.reduceEqDiff, ↓reduceIte]
        refine callV0 (refGetX_fn (L := bitsOf B') (p := p) (w := 1) (by omega) (by omega)) rfl rfl ?_
        have e : decide (((rX (bitsOf B') p 1).1 : Int) = 1) = decide ((rX (bitsOf B') p 1).1 = 1) := by rw [decide_eq_decide]; omega
        simp (disch := (first | omega | (simp only [List.length_append, List.length_set, List.length_cons, List.length_nil, List.length_replicate, List.length_take, List.length_drop, List.length_map, List.length_range, true_and, and_true]; (try omega); done) | fail)) only [go_sem, e, beq_self_eq_true, Int.reduceEq, Int.reduceToNat, Nat.reduceAdd, Nat.reduceMul, Nat.reduceEqDiff, ↓reduceIte]
        exact endW [] hQ
      · simp (disch := (first | omega | (simp only [List.length_append, List.length_set, List.length_cons, List.length_nil, List.length_replicate, List.length_take, List.length_drop, List.length_map, List.length_range, true_and, and_true]; (try omega); done) | fail)) only [go_sem, Int.reduceEq, Int.reduceToNat, Nat.reduceAdd, Nat.reduceMul, Nat.reduceEqDiff, ↓reduceIte]
        refine callW [some 0] [] (rbitX_fn (B := B') (p := p) hI' (by omega) hp) ?_
        simp (disch := (first | omega | (simp only [List.length_append, List.length_set, List.length_cons, List.length_nil, List.length_replicate, List.length_take, List.length_drop, List.length_map, List.length_range, true_and, and_true]; (try omega); done) | fail)) only [go_sem, Int.reduceEq, Int.reduceToNat, Nat.reduceAdd, Nat.reduceMul, Nat.reduceEqDiff, ↓reduceIte]
        refine callV0 (refGetX_fn (L := bitsOf B') (p := p) (w := 1) (by omega) (by omega)) rfl rfl ?_
        have e : decide (((rX (bitsOf B') p 1).1 : Int) = 1) = decide ((rX (bitsOf B') p 1).1 = 1) := by rw [decide_eq_decide]; omega
        simp (disch := (first | omega | (simp only [List.length_append, List.length_set, List.length_cons, List.length_nil, List.length_replicate, List.length_take, List.length_drop, List.length_map, List.length_range, true_and, and_true]; (try omega); done) | fail)) only [go_sem, e, beq_self_eq_true, Int.reduceEq, Int.reduceToNat, Nat.reduceAdd, Nat.reduceMul, Nat.reduceEqDiff, ↓reduceIte]
        exact endW [] hQ
  · simp (disch := (first | omega | (simp only [List.length_append, List.length_set, List.length_cons, List.length_nil, List.length_replicate, List.length_take, List.length_drop, List.length_map, List.length_range, true_and, and_true]; (try omega); done) | fail)) only [go_sem, Int.reduceEq, Int.reduceToNat, Nat.reduceAdd, Nat.reduceMul, Nat.reduceEqDiff, ↓reduceIte]
    have hI' : IsB B := hI
    have hB' : B.length ≤ 300 := by omega
    clear hI hl hB
    generalize B = B' at *
    have hbl := bitsOf_len B'
    refine callW [] [] (read_fn (B := B') (by omega)) ?_
    simp (disch := (first | omega | (simp only [List.length_append, List.length_set, List.length_cons, List.length_nil, List.length_replicate, List.length_take, List.length_drop, List.length_map, List.length_range, true_and, and_true]; (try omega); done) | fail)) only [go_sem, Int.reduceEq, Int.reduceToNat, Nat.reduceAdd, Nat.reduceMul, Nat.reduceEqDiff, ↓reduceIte]
    refine callV0 (refBits_fn (B := B') hI' (by omega)) rfl rfl ?_
    simp (disch := (first | omega | (simp only [List.length_append, List.length_set, List.length_cons, List.length_nil, List.length_replicate, List.length_take, List.length_drop, List.length_map, List.length_range, true_and, and_true]; (try omega); done) | fail)) only [go_sem, Int.reduceEq, Int.reduceToNat, Nat.reduceAdd, Nat.reduceMul, Nat.reduceEqDiff, ↓reduceIte]
    refine LoopV_of (X := Nat × Nat) (st := fun x => ([(1, .row 1 (ws.map (ie .i64))), (5, .ref 0 0 0 0), (6, .row 1 ((bitsOf B').map be)), (7, .lit (.int .i64 (x.2 : Int))), (8, .lit (.int .i64 (x.1 : Int)))], [some (rdC B' x.2)]))
      (inv := fun x => x.1 ≤ 100 ∧ x.1 ≤ ws.length ∧ x.2 ≤ 8 * B'.length) (m := fun x => 100 - x.1) (0, 0) [some 0] rfl (by simp (disch := (first | omega | (simp only [List.length_append, List.length_set, List.length_cons, List.length_nil, List.length_replicate, List.length_take, List.length_drop, List.length_map, List.length_range, true_and, and_true]; (try omega); done) | fail)) only [go_sem, Int.reduceEq, Int.reduceToNat, Nat.reduceAdd, Nat.reduceMul, Nat.reduceEqDiff, ↓reduceIte, true_and, and_true, and_self, List.drop_zero, List.take_length, Nat.le_refl, V.lit.injEq, Value.int.injEq, Value.bool.injEq]; try (first | omega | (simp; done) | (simp; omega))) (by simp (disch := (first | omega | (simp only [List.length_append, List.length_set, List.length_cons, List.length_nil, List.length_replicate, List.length_take, List.length_drop, List.length_map, List.length_range, true_and, and_true]; (try omega); done) | fail)) only [go_sem, Int.reduceEq, Int.reduceToNat, Nat.reduceAdd, Nat.reduceMul, Nat.reduceEqDiff, ↓reduceIte, true_and, and_true, and_self, List.drop_zero, List.take_length, Nat.le_refl, V.lit.injEq, Value.int.injEq, Value.bool.injEq]; try (first | omega | (simp; done) | (simp; omega))) ⟨by omega, by omega, by omega⟩ ?_
    rintro ⟨i, p⟩ ⟨hi, hiw, hp⟩
    simp only at hi hiw hp
    dsimp only
    by_cases hil : i < ws.length ∧ i < 100
    · obtain ⟨hil, hi1⟩ := hil
      have hle := rX_le (L := bitsOf B') (p := p) (w := ws.getD i 0) (by omega)
      simp (disch := (first | omega | (simp only [List.length_append, List.length_set, List.length_cons, List.length_nil, List.length_replicate, List.length_take, List.length_drop, List.length_map, List.length_range, true_and, and_true]; (try omega); done) | fail)) only [go_sem, Int.reduceEq, Int.reduceToNat, Nat.reduceAdd, Nat.reduceMul, Nat.reduceEqDiff, ↓reduceIte]
      refine callW [some 0] [] (rnumX_fn (B := B') (p := p) (w := ws.getD i 0) hI' (by omega) hp) ?_
      simp (disch := (first | omega | (simp only [List.length_append, List.length_set, List.length_cons, List.length_nil, List.length_replicate, List.length_take, List.length_drop, List.length_map, List.length_range, true_and, and_true]; (try omega); done) | fail)) only [go_sem, Int.reduceEq, Int.reduceToNat, Nat.reduceAdd, Nat.reduceMul, Nat.reduceEqDiff, ↓reduceIte]
      refine callV0 (refGetX_fn (L := bitsOf B') (p := p) (w := ws.getD i 0) (by omega) (by omega)) rfl rfl ?_
      generalize rX (bitsOf B') p (ws.getD i 0) = q at *
      simp (disch := (first | omega | (simp only [List.length_append, List.length_set, List.length_cons, List.length_nil, List.length_replicate, List.length_take, List.length_drop, List.length_map, List.length_range, true_and, and_true]; (try omega); done) | fail)) only [go_sem, Int.reduceEq, Int.reduceToNat, Nat.reduceAdd, Nat.reduceMul, Nat.reduceEqDiff, ↓reduceIte]
      refine callW [some 0] [] (left_fn (B := B') (p := q.2.1) (by omega) (by omega)) ?_
      simp (disch := (first | omega | (simp only [List.length_append, List.length_set, List.length_cons, List.length_nil, List.length_replicate, List.length_take, List.length_drop, List.length_map, List.length_range, true_and, and_true]; (try omega); done) | fail)) only [go_sem, Int.reduceEq, Int.reduceToNat, Nat.reduceAdd, Nat.reduceMul, Nat.reduceEqDiff, ↓reduceIte]
      refine callW [some 0] [] (close_fn (B := B') (p := q.2.1) hI' (by omega) (by omega)) ?_
      simp (disch := (first | omega | (simp only [List.length_append, List.length_set, List.length_cons, List.length_nil, List.length_replicate, List.length_take, List.length_drop, List.length_map, List.length_range, true_and, and_true]; (try omega); done) | fail)) only [go_sem, Int.reduceEq, Int.reduceToNat, Nat.reduceAdd, Nat.reduceMul, Nat.reduceEqDiff, ↓reduceIte]
      refine callV0 (refClose_fn (L := bitsOf B') (p := q.2.1) (by omega) (by omega)) rfl rfl ?_
      simp (disch := (first | omega | (simp only [List.length_append, List.length_set, List.length_cons, List.length_nil, List.length_replicate, List.length_take, List.length_drop, List.length_map, List.length_range, true_and, and_true]; (try omega); done) | fail)) only [go_sem, Int.reduceEq, Int.reduceToNat, Nat.reduceAdd, Nat.reduceMul, Nat.reduceEqDiff, ↓reduceIte]
      exact nextW (i + 1, q.2.1) [some 0] ⟨by simp only; omega, by simp only; omega, by simp only; omega⟩ (by simp only; omega)
    · by_cases h1 : i < ws.length
      · have h2 : ¬ i < 100 := fun h => hil ⟨h1, h⟩
        simp (disch := (first | omega | (simp only [List.length_append, List.length_set, List.length_cons, List.length_nil, List.length_replicate, List.length_take, List.length_drop, List.length_map, List.length_range, true_and, and_true]; (try omega); done) | fail)) only [go_sem, Int.reduceEq, Int.reduceToNat, Nat.reduceAdd, Nat.reduceMul, Nat.reduceEqDiff, ↓reduceIte]
        refine callW [some 0] [] (rbitX_fn (B := B') (p := p) hI' (by omega) hp) ?_
        simp (disch := (first | omega | (simp only [List.length_append, List.length_set, List.length_cons, List.length_nil, List.length_replicate, List.length_take, List.length_drop, List.length_map, List.length_range, true_and, and_true]; (try omega); done) | fail)) only [go_sem, Int.reduceEq, Int.reduceToNat, Nat.reduceAdd, Nat.reduceMul, Nat.reduceEqDiff, ↓reduceIte]
        refine callV0 (refGetX_fn (L := bitsOf B') (p := p) (w := 1) (by omega) (by omega)) rfl rfl ?_
        have e : decide (((rX (bitsOf B') p 1).1 : Int) = 1) = decide ((rX (bitsOf B') p 1).1 = 1) := by rw [decide_eq_decide]; omega
        simp (disch := (first | omega | (simp only [List.length_append, List.length_set, List.length_cons, List.length_nil, List.length_replicate, List.length_take, List.length_drop, List.length_map, List.length_range, true_and, and_true]; (try omega); done) | fail)) only [go_sem, e, beq_self_eq_true, Int.reduceEq, Int.reduceToNat, Nat.reduceAdd, Nat.reduceMul, Nat.reduceEqDiff, ↓reduceIte]
        exact endW [] hQ
      · simp (disch := (first | omega | (simp only [List.length_append, List.length_set, List.length_cons, List.length_nil, List.length_replicate, List.length_take, List.length_drop, List.length_map, List.length_range, true_and, and_true]; (try omega); done) | fail)) only [go_sem, Int.reduceEq, Int.reduceToNat, Nat.reduceAdd, Nat.reduceMul, Nat.reduceEqDiff, ↓reduceIte]
        refine callW [some 0] [] (rbitX_fn (B := B') (p := p) hI' (by omega) hp) ?_
        simp (disch := (first | omega | (simp only [List.length_append, List.length_set, List.length_cons, List.length_nil, List.length_replicate, List.length_take, List.length_drop, List.length_map, List.length_range, true_and, and_true]; (try omega); done) | fail)) only [go_sem, Int.reduceEq, Int.reduceToNat, Nat.reduceAdd, Nat.reduceMul, Nat.reduceEqDiff, ↓reduceIte]
        refine callV0 (refGetX_fn (L := bitsOf B') (p := p) (w := 1) (by omega) (by omega)) rfl rfl ?_
        have e : decide (((rX (bitsOf B') p 1).1 : Int) = 1) = decide ((rX (bitsOf B') p 1).1 = 1) := by rw [decide_eq_decide]; omega
        simp (disch := (first | omega | (simp only [List.length_append, List.length_set, List.length_cons, List.length_nil, List.length_replicate, List.length_take, List.length_drop, List.length_map, List.length_range, true_and, and_true]; (try omega); done) | fail)) only [go_sem, e, beq_self_eq_true, Int.reduceEq, Int.reduceToNat, Nat.reduceAdd, Nat.reduceMul, Nat.reduceEqDiff, ↓reduceIte]
        exact endW [] hQ
end Go.Proofs.Ythbcfjlalmhabaa
