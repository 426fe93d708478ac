import Derived.Test.YthbcfjlalmhabaaWi
import Derived.Test.YthbcfjlalmhabaaE7
/-! Codes, read. -/
namespace Go.Proofs.Ythbcfjlalmhabaa
open Go.Eng Go.Vx
set_option linter.unusedSimpArgs false
set_option linter.unusedVariables false
set_option maxRecDepth 100000
theorem gamma_fn {B : List Int} {p : Nat} (hI : IsB B) (hB : B.length ≤ 1099511627776) (hp : p ≤ 8 * B.length) : Fn1 Try.prog 56 [.ref 0 0 0 0] [some (rdC B p)]
    (.tup [.lit (.int .u64 ((gX (bitsOf B) p).1 : Int)), .lit (.int .i64 (gX (bitsOf B) p).2.2)]) [some (rdC B (gX (bitsOf B) p).2.1)] := by
  refine fn1_of pl56 (by kernel_rfl) Try.call56 Try.func56 rfl (by kernel_rfl) rfl [.tmp 2, .tmp 3] (by kernel_rfl) fun Q hQ => ?_
  simp (disch := (first | omega | (simp only [List.length_append, List.length_set, List.length_cons, List.length_nil, List.length_replicate, List.length_take, List.length_drop, List.length_map, List.length_range, true_and, and_true]; (try omega); done) | fail)) only [go_sem, Int.reduceEq, Int.reduceToNat, Nat.reduceAdd, Nat.reduceMul, Nat.reduceEqDiff, ↓reduceIte]
  have hbl := bitsOf_len B
  refine LoopV_of (X := Nat) (st := fun k => ([(0, .ref 0 0 0 0), (9, .lit (.int .i64 (k : Int)))], [some (rdC B (p + k))]))
    (inv := fun k => k ≤ 64 ∧ k ≤ zr (bitsOf B) p ∧ p + k ≤ 8 * B.length) (m := fun k => 64 - k) 0 [some 0] rfl (by simp (disch := (first | omega | (simp only [List.length_append, List.length_set, List.length_cons, List.length_nil, List.length_replicate, List.length_take, List.length_drop, List.length_map, List.length_range, true_and, and_true]; (try omega); done) | fail)) only [go_sem, Int.reduceEq, Int.reduceToNat, Nat.reduceAdd, Nat.reduceMul, Nat.reduceEqDiff, ↓reduceIte, true_and, and_true, and_self, List.drop_zero, List.take_length, Nat.le_refl, V.lit.injEq, Value.int.injEq, Value.bool.injEq]; try (first | omega | (simp; done) | (simp; omega))) (by simp (disch := (first | omega | (simp only [List.length_append, List.length_set, List.length_cons, List.length_nil, List.length_replicate, List.length_take, List.length_drop, List.length_map, List.length_range, true_and, and_true]; (try omega); done) | fail)) only [go_sem, Int.reduceEq, Int.reduceToNat, Nat.reduceAdd, Nat.reduceMul, Nat.reduceEqDiff, ↓reduceIte, true_and, and_true, and_self, List.drop_zero, List.take_length, Nat.le_refl, V.lit.injEq, Value.int.injEq, Value.bool.injEq]; try (first | omega | (simp; done) | (simp; omega))) ⟨by omega, by omega, by omega⟩ ?_
  rintro k ⟨hk, hz, hpk⟩
  by_cases hk64 : k < 64
  · simp (disch := (first | omega | (simp only [List.length_append, List.length_set, List.length_cons, List.length_nil, List.length_replicate, List.length_take, List.length_drop, List.length_map, List.length_range, true_and, and_true]; (try omega); done) | fail)) only [go_sem, Int.reduceEq, Int.reduceToNat, Nat.reduceAdd, Nat.reduceMul, Nat.reduceEqDiff, ↓reduceIte]
    refine callW [some 0] [] (rbitX_fn (B := B) (p := p + k) hI hB hpk) ?_
    by_cases hin : p + k < (bitsOf B).length
    · rw [rX_one hin]
      cases hb : (bitsOf B).getD (p + k) false with
      | true =>
        have hzk := zr_true hin hz hb
        simp (disch := (first | omega | (simp only [List.length_append, List.length_set, List.length_cons, List.length_nil, List.length_replicate, List.length_take, List.length_drop, List.length_map, List.length_range, true_and, and_true]; (try omega); done) | fail)) only [go_sem, Bool.toNat_true, decide_true, Int.reduceEq, Int.reduceToNat, Nat.reduceAdd, Nat.reduceMul, Nat.reduceEqDiff, ↓reduceIte]
        refine callW [some 0] [] (rnumX_fn (B := B) (p := p + k + 1) (w := k) hI hB (by omega)) ?_
        by_cases he : p + k + 1 + k ≤ (bitsOf B).length
        · rw [rX_ok (by omega) he]
          rw [(gX_ok hzk hk64 (by omega)).1] at hQ
          have hnl := numOf_lt (((bitsOf B).drop (p + k + 1)).take k)
          have hln : (((bitsOf B).drop (p + k + 1)).take k).length = k := by simp; omega
          rw [hln] at hnl
          simp (disch := (first | omega | (simp only [List.length_append, List.length_set, List.length_cons, List.length_nil, List.length_replicate, List.length_take, List.length_drop, List.length_map, List.length_range, true_and, and_true]; (try omega); done) | fail)) only [go_sem, sh1_u64 hk64, or_top hk64 hnl, Int.reduceEq, Int.reduceToNat, Nat.reduceAdd, Nat.reduceMul, Nat.reduceEqDiff, ↓reduceIte]
          exact endW [some 0] hQ
        · rw [rX_end (by omega) he]
          rw [(gX_end hzk hk64 (by omega)).1, if_pos hin] at hQ
          simp (disch := (first | omega | (simp only [List.length_append, List.length_set, List.length_cons, List.length_nil, List.length_replicate, List.length_take, List.length_drop, List.length_map, List.length_range, true_and, and_true]; (try omega); done) | fail)) only [go_sem, Int.reduceEq, Int.reduceToNat, Nat.reduceAdd, Nat.reduceMul, Nat.reduceEqDiff, ↓reduceIte]
          exact endW [some 0] hQ
      | false =>
        have hzk := zr_false hin hz hb
        simp (disch := (first | omega | (simp only [List.length_append, List.length_set, List.length_cons, List.length_nil, List.length_replicate, List.length_take, List.length_drop, List.length_map, List.length_range, true_and, and_true]; (try omega); done) | fail)) only [go_sem, Bool.toNat_false, Int.reduceEq, Int.reduceToNat, Nat.reduceAdd, Nat.reduceMul, Nat.reduceEqDiff, ↓reduceIte]
        refine nextW (k + 1) [some 0] ⟨by omega, by omega, by omega⟩ (by omega)
    · rw [rX_one_end hin]
      have hzk := zr_end hin hz (by omega)
      rw [(gX_end hzk hk64 (by omega)).1, if_neg hin] at hQ
      simp (disch := (first | omega | (simp only [List.length_append, List.length_set, List.length_cons, List.length_nil, List.length_replicate, List.length_take, List.length_drop, List.length_map, List.length_range, true_and, and_true]; (try omega); done) | fail)) only [go_sem, Int.reduceEq, Int.reduceToNat, Nat.reduceAdd, Nat.reduceMul, Nat.reduceEqDiff, ↓reduceIte]
      exact endW [some 0] hQ
  · obtain rfl : k = 64 := by omega
    rw [(gX_form (by omega)).1] at hQ
    simp (disch := (first | omega | (simp only [List.length_append, List.length_set, List.length_cons, List.length_nil, List.length_replicate, List.length_take, List.length_drop, List.length_map, List.length_range, true_and, and_true]; (try omega); done) | fail)) only [go_sem, Int.reduceEq, Int.reduceToNat, Nat.reduceAdd, Nat.reduceMul, Nat.reduceEqDiff, ↓reduceIte]
    exact endW [some 0] hQ
theorem refReadGamma_fn {L : List Bool} {p : Nat} (hL : L.length ≤ 1099511627776) (hp : p ≤ L.length) : Fn1 Try.prog 57 [.row 1 (L.map be), .lit (.int .i64 (p : Int))] []
    (.tup [.lit (.int .u64 ((gR L p).1 : Int)), .lit (.int .i64 ((gR L p).2.1 : Int)), .lit (.int .i64 (gR L p).2.2)]) [] := by
  refine fn1_of pl57 (by kernel_rfl) Try.call57 Try.func57 rfl (by kernel_rfl) rfl [.tmp 4, .tmp 5, .tmp 6] (by kernel_rfl) fun Q hQ => ?_
  simp (disch := (first | omega | (simp only [List.length_append, List.length_set, List.length_cons, List.length_nil, List.length_replicate, List.length_take, List.length_drop, List.length_map, List.length_range, true_and, and_true]; (try omega); done) | fail)) only [go_sem, Int.reduceEq, Int.reduceToNat, Nat.reduceAdd, Nat.reduceMul, Nat.reduceEqDiff, ↓reduceIte]
  refine LoopV_of (X := Nat) (st := fun k => ([(0, .row 1 (L.map be)), (1, .lit (.int .i64 ((p + k : Nat) : Int))), (7, .lit (.int .i64 (k : Int)))], []))
    (inv := fun k => k < 64 ∧ k ≤ zr L p ∧ p + k ≤ L.length) (m := fun k => 64 - k) 0 [] rfl (by simp (disch := (first | omega | (simp only [List.length_append, List.length_set, List.length_cons, List.length_nil, List.length_replicate, List.length_take, List.length_drop, List.length_map, List.length_range, true_and, and_true]; (try omega); done) | fail)) only [go_sem, Int.reduceEq, Int.reduceToNat, Nat.reduceAdd, Nat.reduceMul, Nat.reduceEqDiff, ↓reduceIte, true_and, and_true, and_self, List.drop_zero, List.take_length, Nat.le_refl, V.lit.injEq, Value.int.injEq, Value.bool.injEq]; try (first | omega | (simp; done) | (simp; omega))) (by simp (disch := (first | omega | (simp only [List.length_append, List.length_set, List.length_cons, List.length_nil, List.length_replicate, List.length_take, List.length_drop, List.length_map, List.length_range, true_and, and_true]; (try omega); done) | fail)) only [go_sem, Int.reduceEq, Int.reduceToNat, Nat.reduceAdd, Nat.reduceMul, Nat.reduceEqDiff, ↓reduceIte, true_and, and_true, and_self, List.drop_zero, List.take_length, Nat.le_refl, V.lit.injEq, Value.int.injEq, Value.bool.injEq]; try (first | omega | (simp; done) | (simp; omega))) ⟨by omega, by omega, by omega⟩ ?_
  rintro k ⟨hk, hz, hpk⟩
  by_cases hin : p + k < L.length
  · cases hb : L.getD (p + k) false with
    | true =>
      have hzk := zr_true hin hz hb
      simp (disch := (first | omega | (simp only [List.length_append, List.length_set, List.length_cons, List.length_nil, List.length_replicate, List.length_take, List.length_drop, List.length_map, List.length_range, true_and, and_true]; (try omega); done) | fail)) only [go_sem, hb, Int.reduceEq, Int.reduceToNat, Nat.reduceAdd, Nat.reduceMul, Nat.reduceEqDiff, ↓reduceIte]
      rw [show (k : Int) + 1 = ((k + 1 : Nat) : Int) by omega]
      refine callV0 (refGetX_fn (L := L) (p := p + k) (w := ((k + 1 : Nat) : Int)) hL hpk) rfl rfl ?_
      by_cases he : p + k + (k + 1) ≤ L.length
      · rw [rX_ok (by omega) he, numOf_top (by omega) hb]
        rw [(gX_ok hzk hk (by omega)).2, (gX_ok hzk hk (by omega)).1] at hQ
        simp (disch := (first | omega | (simp only [List.length_append, List.length_set, List.length_cons, List.length_nil, List.length_replicate, List.length_take, List.length_drop, List.length_map, List.length_range, true_and, and_true]; (try omega); done) | fail)) only [go_sem, Int.reduceEq, Int.reduceToNat, Nat.reduceAdd, Nat.reduceMul, Nat.reduceEqDiff, ↓reduceIte]
        exact endW [] hQ
      · rw [rX_end (by omega) he]
        rw [(gX_end hzk hk (by omega)).2] at hQ
        simp (disch := (first | omega | (simp only [List.length_append, List.length_set, List.length_cons, List.length_nil, List.length_replicate, List.length_take, List.length_drop, List.length_map, List.length_range, true_and, and_true]; (try omega); done) | fail)) only [go_sem, Int.reduceEq, Int.reduceToNat, Nat.reduceAdd, Nat.reduceMul, Nat.reduceEqDiff, ↓reduceIte]
        exact endW [] hQ
    | false =>
      have hzk := zr_false hin hz hb
      by_cases h64 : k + 1 = 64
      · rw [(gX_form (by omega)).2] at hQ
        simp (disch := (first | omega | (simp only [List.length_append, List.length_set, List.length_cons, List.length_nil, List.length_replicate, List.length_take, List.length_drop, List.length_map, List.length_range, true_and, and_true]; (try omega); done) | fail)) only [go_sem, hb, Int.reduceEq, Int.reduceToNat, Nat.reduceAdd, Nat.reduceMul, Nat.reduceEqDiff, ↓reduceIte]
        exact endW [] hQ
      · simp (disch := (first | omega | (simp only [List.length_append, List.length_set, List.length_cons, List.length_nil, List.length_replicate, List.length_take, List.length_drop, List.length_map, List.length_range, true_and, and_true]; (try omega); done) | fail)) only [go_sem, hb, Int.reduceEq, Int.reduceToNat, Nat.reduceAdd, Nat.reduceMul, Nat.reduceEqDiff, ↓reduceIte]
        refine nextW (k + 1) [] ⟨by omega, by omega, by omega⟩ (by omega)
  · have hzk := zr_end hin hz (by omega)
    rw [(gX_end hzk hk (by omega)).2] at hQ
    simp (disch := (first | omega | (simp only [List.length_append, List.length_set, List.length_cons, List.length_nil, List.length_replicate, List.length_take, List.length_drop, List.length_map, List.length_range, true_and, and_true]; (try omega); done) | fail)) only [go_sem, Int.reduceEq, Int.reduceToNat, Nat.reduceAdd, Nat.reduceMul, Nat.reduceEqDiff, ↓reduceIte]
    rw [show (k : Int) + 1 = ((k + 1 : Nat) : Int) by omega]
    refine callV0 (refGetX_fn (L := L) (p := p + k) (w := ((k + 1 : Nat) : Int)) hL hpk) rfl rfl ?_
    rw [rX_end (by omega) (by omega)]
    simp (disch := (first | omega | (simp only [List.length_append, List.length_set, List.length_cons, List.length_nil, List.length_replicate, List.length_take, List.length_drop, List.length_map, List.length_range, true_and, and_true]; (try omega); done) | fail)) only [go_sem, Int.reduceEq, Int.reduceToNat, Nat.reduceAdd, Nat.reduceMul, Nat.reduceEqDiff, ↓reduceIte]
    exact endW [] hQ
theorem delta_fn {B : List Int} {p : Nat} (hI : IsB B) (hB : B.length ≤ 1099511627776) (hp : p ≤ 8 * B.length) : Fn1 Try.prog 42 [.ref 0 0 0 0] [some (rdC B p)]
    (.tup [.lit (.int .u64 ((dX (bitsOf B) p).1 : Int)), .lit (.int .i64 (dX (bitsOf B) p).2.2)]) [some (rdC B (dX (bitsOf B) p).2.1)] := by
  refine fn1_of pl42 (by kernel_rfl) Try.call42 Try.func42 rfl (by kernel_rfl) rfl [.tmp 2, .tmp 3] (by kernel_rfl) fun Q hQ => ?_
  simp (disch := (first | omega | (simp only [List.length_append, List.length_set, List.length_cons, List.length_nil, List.length_replicate, List.length_take, List.length_drop, List.length_map, List.length_range, true_and, and_true]; (try omega); done) | fail)) only [go_sem, Int.reduceEq, Int.reduceToNat, Nat.reduceAdd, Nat.reduceMul, Nat.reduceEqDiff, ↓reduceIte]
  have hbl := bitsOf_len B
  refine callW [some 0] [] (gamma_fn (B := B) (p := p) hI hB hp) ?_
  have hq := gX_le (L := bitsOf B) (p := p) (by omega)
  have hn := gX_lt (L := bitsOf B) (p := p)
  have hpos := gX_pos (L := bitsOf B) (p := p)
  unfold dX at hQ
  generalize hg : gX (bitsOf B) p = g at *
  obtain ⟨n, q, e⟩ := g
  simp only at hQ hq hn hpos
  by_cases he : e = 0
  · subst he
    have hpos := hpos rfl
    rw [if_pos rfl] at hQ
    by_cases h64 : 64 < n
    · rw [if_pos h64] at hQ
      simp (disch := (first | omega | (simp only [List.length_append, List.length_set, List.length_cons, List.length_nil, List.length_replicate, List.length_take, List.length_drop, List.length_map, List.length_range, true_and, and_true]; (try omega); done) | fail)) only [go_sem, Int.reduceEq, Int.reduceToNat, Nat.reduceAdd, Nat.reduceMul, Nat.reduceEqDiff, ↓reduceIte]
      exact endW [some 0] hQ
    · rw [if_neg h64] at hQ
      simp (disch := (first | omega | (simp only [List.length_append, List.length_set, List.length_cons, List.length_nil, List.length_replicate, List.length_take, List.length_drop, List.length_map, List.length_range, true_and, and_true]; (try omega); done) | fail)) only [go_sem, Int.reduceEq, Int.reduceToNat, Nat.reduceAdd, Nat.reduceMul, Nat.reduceEqDiff, ↓reduceIte]
      rw [show (n : Int) - 1 = ((n - 1 : Nat) : Int) by omega]
      refine callW [some 0] [] (rnumX_fn (B := B) (p := q) (w := ((n - 1 : Nat) : Int)) hI hB (by omega)) ?_
      by_cases hr : q + (n - 1) ≤ (bitsOf B).length
      · rw [rX_ok (by omega) hr]
        rw [if_pos hr] at hQ
        have hnl := numOf_lt (((bitsOf B).drop q).take (n - 1))
        have hln : (((bitsOf B).drop q).take (n - 1)).length = n - 1 := by simp; omega
        rw [hln] at hnl
        simp (disch := (first | omega | (simp only [List.length_append, List.length_set, List.length_cons, List.length_nil, List.length_replicate, List.length_take, List.length_drop, List.length_map, List.length_range, true_and, and_true]; (try omega); done) | fail)) only [go_sem, show ((n : Int) - 1).toNat = n - 1 by omega, sh1_u64 (k := n - 1) (by omega), or_top (k := n - 1) (by omega) hnl, Int.reduceEq, Int.reduceToNat, Nat.reduceAdd, Nat.reduceMul, Nat.reduceEqDiff, ↓reduceIte]
        exact endW [some 0] hQ
      · rw [rX_end (by omega) hr]
        rw [if_neg hr] at hQ
        simp (disch := (first | omega | (simp only [List.length_append, List.length_set, List.length_cons, List.length_nil, List.length_replicate, List.length_take, List.length_drop, List.length_map, List.length_range, true_and, and_true]; (try omega); done) | fail)) only [go_sem, Int.reduceEq, Int.reduceToNat, Nat.reduceAdd, Nat.reduceMul, Nat.reduceEqDiff, ↓reduceIte]
        exact endW [some 0] hQ
  · rw [if_neg he] at hQ
    simp (disch := (first | omega | (simp only [List.length_append, List.length_set, List.length_cons, List.length_nil, List.length_replicate, List.length_take, List.length_drop, List.length_map, List.length_range, true_and, and_true]; (try omega); done) | fail)) only [go_sem, Int.reduceEq, Int.reduceToNat, Nat.reduceAdd, Nat.reduceMul, Nat.reduceEqDiff, ↓reduceIte]
    exact endW [some 0] hQ
theorem refReadDelta_fn {L : List Bool} {p : Nat} (hL : L.length ≤ 1099511627776) (hp : p ≤ L.length) : Fn1 Try.prog 58 [.row 1 (L.map be), .lit (.int .i64 (p : Int))] []
    (.tup [.lit (.int .u64 ((dR L p).1 : Int)), .lit (.int .i64 ((dR L p).2.1 : Int)), .lit (.int .i64 (dR L p).2.2)]) [] := by
  refine fn1_of pl58 (by kernel_rfl) Try.call58 Try.func58 rfl (by kernel_rfl) rfl [.tmp 4, .tmp 5, .tmp 6] (by kernel_rfl) fun Q hQ => ?_
  simp (disch := (first | omega | (simp only [List.length_append, List.length_set, List.length_cons, List.length_nil, List.length_replicate, List.length_take, List.length_drop, List.length_map, List.length_range, true_and, and_true]; (try omega); done) | fail)) only [go_sem, Int.reduceEq, Int.reduceToNat, Nat.reduceAdd, Nat.reduceMul, Nat.reduceEqDiff, ↓reduceIte]
  refine callV0 (refReadGamma_fn (L := L) (p := p) hL hp) rfl rfl ?_
  have hq := gX_le (L := L) (p := p) hp
  have hn := gX_lt (L := L) (p := p)
  have hpos := gX_pos (L := L) (p := p)
  obtain ⟨e1, e2, e3, -⟩ := gR_eq L p
  unfold dR dX at hQ
  rw [e1, e2]
  generalize hg : gX L p = g at *
  obtain ⟨n, q, e⟩ := g
  simp only at hQ hq hn hpos e1 e2 e3
  by_cases he : e = 0
  · subst he
    have hpos := hpos rfl
    rw [e3 rfl]
    simp only [if_pos] at hQ
    by_cases h64 : 64 < n
    · simp only [if_pos h64] at hQ
      rw [if_neg (by decide)] at hQ
      simp (disch := (first | omega | (simp only [List.length_append, List.length_set, List.length_cons, List.length_nil, List.length_replicate, List.length_take, List.length_drop, List.length_map, List.length_range, true_and, and_true]; (try omega); done) | fail)) only [go_sem, Int.reduceEq, Int.reduceToNat, Nat.reduceAdd, Nat.reduceMul, Nat.reduceEqDiff, ↓reduceIte]
      exact endW [] hQ
    · simp only [if_neg h64] at hQ
      simp (disch := (first | omega | (simp only [List.length_append, List.length_set, List.length_cons, List.length_nil, List.length_replicate, List.length_take, List.length_drop, List.length_map, List.length_range, true_and, and_true]; (try omega); done) | fail)) only [go_sem, Int.reduceEq, Int.reduceToNat, Nat.reduceAdd, Nat.reduceMul, Nat.reduceEqDiff, ↓reduceIte]
      rw [show (n : Int) - 1 = ((n - 1 : Nat) : Int) by omega]
      refine callV0 (refGetX_fn (L := L) (p := q) (w := ((n - 1 : Nat) : Int)) hL (by omega)) rfl rfl ?_
      by_cases hr : q + (n - 1) ≤ L.length
      · rw [rX_ok (by omega) hr]
        simp only [if_pos hr, if_pos] at hQ
        have hnl := numOf_lt ((L.drop q).take (n - 1))
        have hln : ((L.drop q).take (n - 1)).length = n - 1 := by simp; omega
        rw [hln] at hnl
        have hp2 : 2 ^ (n - 1) ≤ 2 ^ 63 := Nat.pow_le_pow_right (by decide) (by omega)
        rw [Nat.add_comm (2 ^ (n - 1))] at hQ
        simp (disch := (first | omega | (simp only [List.length_append, List.length_set, List.length_cons, List.length_nil, List.length_replicate, List.length_take, List.length_drop, List.length_map, List.length_range, true_and, and_true]; (try omega); done) | fail)) only [go_sem, show ((n : Int) - 1).toNat = n - 1 by omega, sh1_u64 (k := n - 1) (by omega), Int.reduceEq, Int.reduceToNat, Nat.reduceAdd, Nat.reduceMul, Nat.reduceEqDiff, ↓reduceIte]
        exact endW [] hQ
      · rw [rX_end (by omega) hr]
        simp only [if_neg hr] at hQ
        rw [if_neg (by decide)] at hQ
        simp (disch := (first | omega | (simp only [List.length_append, List.length_set, List.length_cons, List.length_nil, List.length_replicate, List.length_take, List.length_drop, List.length_map, List.length_range, true_and, and_true]; (try omega); done) | fail)) only [go_sem, Int.reduceEq, Int.reduceToNat, Nat.reduceAdd, Nat.reduceMul, Nat.reduceEqDiff, ↓reduceIte]
        exact endW [] hQ
  · simp only [if_neg he] at hQ
    simp (disch := (first | omega | (simp only [List.length_append, List.length_set, List.length_cons, List.length_nil, List.length_replicate, List.length_take, List.length_drop, List.length_map, List.length_range, true_and, and_true]; (try omega); done) | fail)) only [go_sem, Int.reduceEq, Int.reduceToNat, Nat.reduceAdd, Nat.reduceMul, Nat.reduceEqDiff, ↓reduceIte]
    exact endW [] hQ
theorem var_fn {B : List Int} {p : Nat} (hI : IsB B) (hB : B.length ≤ 1099511627776) (hp : p ≤ 8 * B.length) : Fn1 Try.prog 43 [.ref 0 0 0 0] [some (rdC B p)]
    (.tup [.lit (.int .u64 ((vX (bitsOf B) p).1 : Int)), .lit (.int .i64 (vX (bitsOf B) p).2.2)]) [some (rdC B (vX (bitsOf B) p).2.1)] := by
  refine fn1_of pl43 (by kernel_rfl) Try.call43 Try.func43 rfl (by kernel_rfl) rfl [.tmp 2, .tmp 3] (by kernel_rfl) fun Q hQ => ?_
  simp (disch := (first | omega | (simp only [List.length_append, List.length_set, List.length_cons, List.length_nil, List.length_replicate, List.length_take, List.length_drop, List.length_map, List.length_range, true_and, and_true]; (try omega); done) | fail)) only [go_sem, Int.reduceEq, Int.reduceToNat, Nat.reduceAdd, Nat.reduceMul, Nat.reduceEqDiff, ↓reduceIte]
  have hbl := bitsOf_len B
  refine LoopV_of (X := Nat × Nat × Nat) (st := fun x => ([(0, .ref 0 0 0 0), (4, .lit (.int .u64 (x.2.2 : Int))), (9, .lit (.int .i64 (x.1 : Int)))], [some (rdC B x.2.1)]))
    (inv := fun x => x.1 ≤ 10 ∧ x.2.1 ≤ 8 * B.length ∧ x.2.2 < 2 ^ (7 * x.1) ∧ vX (bitsOf B) p = vXj (bitsOf B) (10 - x.1) x.1 x.2.1 x.2.2) (m := fun x => 10 - x.1) (0, p, 0) [some 0] rfl (by simp (disch := (first | omega | (simp only [List.length_append, List.length_set, List.length_cons, List.length_nil, List.length_replicate, List.length_take, List.length_drop, List.length_map, List.length_range, true_and, and_true]; (try omega); done) | fail)) only [go_sem, Int.reduceEq, Int.reduceToNat, Nat.reduceAdd, Nat.reduceMul, Nat.reduceEqDiff, ↓reduceIte, true_and, and_true, and_self, List.drop_zero, List.take_length, Nat.le_refl, V.lit.injEq, Value.int.injEq, Value.bool.injEq]; try (first | omega | (simp; done) | (simp; omega))) (by simp (disch := (first | omega | (simp only [List.length_append, List.length_set, List.length_cons, List.length_nil, List.length_replicate, List.length_take, List.length_drop, List.length_map, List.length_range, true_and, and_true]; (try omega); done) | fail)) only [go_sem, Int.reduceEq, Int.reduceToNat, Nat.reduceAdd, Nat.reduceMul, Nat.reduceEqDiff, ↓reduceIte, true_and, and_true, and_self, List.drop_zero, List.take_length, Nat.le_refl, V.lit.injEq, Value.int.injEq, Value.bool.injEq]; try (first | omega | (simp; done) | (simp; omega))) ⟨by simp, hp, by simp, rfl⟩ ?_
  rintro ⟨i, q, a⟩ ⟨hi, hq, ha, hv⟩
  simp only at hi hq ha hv
  rw [hv] at hQ
  by_cases h10 : i < 10
  · obtain ⟨j, hj⟩ : ∃ j, 10 - i = j + 1 := ⟨9 - i, by omega⟩
    rw [hj] at hQ
    simp (disch := (first | omega | (simp only [List.length_append, List.length_set, List.length_cons, List.length_nil, List.length_replicate, List.length_take, List.length_drop, List.length_map, List.length_range, true_and, and_true]; (try omega); done) | fail)) only [go_sem, Int.reduceEq, Int.reduceToNat, Nat.reduceAdd, Nat.reduceMul, Nat.reduceEqDiff, ↓reduceIte]
    refine callW [some 0] [] (rnumX_fn (B := B) (p := q) (w := 8) hI hB hq) ?_
    by_cases hr : q + 8 ≤ (bitsOf B).length
    · rw [rX8_ok hr]
      obtain ⟨x, hx⟩ : ∃ x, numOf (((bitsOf B).drop q).take 8) = x := ⟨_, rfl⟩
      have hx8 := numOf_lt (((bitsOf B).drop q).take 8)
      have hln : (((bitsOf B).drop q).take 8).length = 8 := by simp; omega
      rw [hln, hx] at hx8
      rw [vXj_ok hr hx] at hQ
      rw [hx]
      have hc : (x : Int) % 128 = ((x % 128 : Nat) : Int) := by omega
      have e7 : (7 * (i : Int)).toNat = 7 * i := by omega
      have hxm : x % 128 < 128 := Nat.mod_lt _ (by decide)
      by_cases hbad : (i = 9 ∧ 1 < x % 128) ∨ (0 < i ∧ x = 0)
      · rw [if_pos hbad] at hQ
        by_cases h9 : i = 9
        · by_cases h8 : 1 < x % 128
          · simp (disch := (first | omega | (simp only [List.length_append, List.length_set, List.length_cons, List.length_nil, List.length_replicate, List.length_take, List.length_drop, List.length_map, List.length_range, true_and, and_true]; (try omega); done) | fail)) only [go_sem, hc, Int.reduceEq, Int.reduceToNat, Nat.reduceAdd, Nat.reduceMul, Nat.reduceEqDiff, ↓reduceIte]
            exact endW [some 0] hQ
          · simp (disch := (first | omega | (simp only [List.length_append, List.length_set, List.length_cons, List.length_nil, List.length_replicate, List.length_take, List.length_drop, List.length_map, List.length_range, true_and, and_true]; (try omega); done) | fail)) only [go_sem, hc, Int.reduceEq, Int.reduceToNat, Nat.reduceAdd, Nat.reduceMul, Nat.reduceEqDiff, ↓reduceIte]
            exact endW [some 0] hQ
        · simp (disch := (first | omega | (simp only [List.length_append, List.length_set, List.length_cons, List.length_nil, List.length_replicate, List.length_take, List.length_drop, List.length_map, List.length_range, true_and, and_true]; (try omega); done) | fail)) only [go_sem, hc, Int.reduceEq, Int.reduceToNat, Nat.reduceAdd, Nat.reduceMul, Nat.reduceEqDiff, ↓reduceIte]
          exact endW [some 0] hQ
      · rw [if_neg hbad] at hQ
        have h91 : i = 9 → x % 128 ≤ 1 := fun h => by
          have : ¬ 1 < x % 128 := fun h' => hbad (.inl ⟨h, h'⟩)
          omega
        have h0 : ¬ (0 < i ∧ x = 0) := fun h => hbad (.inr h)
        have hw := wrap_shl (x := x % 128) (i := i) (by omega) h91 hxm
        have ho := or_shl (x := x % 128) ha (by omega) h91 hxm
        have hs := shl7 (x := x % 128) (i := i) (by omega) h91 hxm
        have hp7 := pow7_succ i
        have hmul : x % 128 * 2 ^ (7 * i) ≤ 127 * 2 ^ (7 * i) := Nat.mul_le_mul_right _ (by omega)
        by_cases hx128 : x < 128
        case' pos => rw [if_pos hx128] at hQ
        case' neg => rw [if_neg hx128] at hQ
        all_goals
          by_cases h9 : i = 9
          case' pos => simp (disch := (first | omega | (simp only [List.length_append, List.length_set, List.length_cons, List.length_nil, List.length_replicate, List.length_take, List.length_drop, List.length_map, List.length_range, true_and, and_true]; (try omega); done) | fail)) only [go_sem, hc, Int.reduceEq, Int.reduceToNat, Nat.reduceAdd, Nat.reduceMul, Nat.reduceEqDiff, ↓reduceIte]
          case' neg => simp (disch := (first | omega | (simp only [List.length_append, List.length_set, List.length_cons, List.length_nil, List.length_replicate, List.length_take, List.length_drop, List.length_map, List.length_range, true_and, and_true]; (try omega); done) | fail)) only [go_sem, hc, Int.reduceEq, Int.reduceToNat, Nat.reduceAdd, Nat.reduceMul, Nat.reduceEqDiff, ↓reduceIte]
        all_goals
          by_cases hi0 : i = 0
          case' pos => simp (disch := (first | omega | (simp only [List.length_append, List.length_set, List.length_cons, List.length_nil, List.length_replicate, List.length_take, List.length_drop, List.length_map, List.length_range, true_and, and_true]; (try omega); done) | fail)) only [go_sem, hc, e7, hw, ho, Int.reduceEq, Int.reduceToNat, Nat.reduceAdd, Nat.reduceMul, Nat.reduceEqDiff, ↓reduceIte]
          case' neg => simp (disch := (first | omega | (simp only [List.length_append, List.length_set, List.length_cons, List.length_nil, List.length_replicate, List.length_take, List.length_drop, List.length_map, List.length_range, true_and, and_true]; (try omega); done) | fail)) only [go_sem, hc, e7, hw, ho, Int.reduceEq, Int.reduceToNat, Nat.reduceAdd, Nat.reduceMul, Nat.reduceEqDiff, ↓reduceIte]
        all_goals
          first
          | omega
          | (exact endW [some 0] hQ)
          | (refine nextW (i + 1, q + 8, a + x % 128 * 2 ^ (7 * i)) [some 0] ⟨by simp only; omega, by simp only; omega, by simp only; omega, by rw [hv, hj, vXj_ok hr hx, if_neg hbad, if_neg hx128]; simp only; rw [show 10 - (i + 1) = j by omega]⟩ (by simp only; omega))
    · rw [rX8_end hr]
      rw [vXj_end hr] at hQ
      simp (disch := (first | omega | (simp only [List.length_append, List.length_set, List.length_cons, List.length_nil, List.length_replicate, List.length_take, List.length_drop, List.length_map, List.length_range, true_and, and_true]; (try omega); done) | fail)) only [go_sem, Int.reduceEq, Int.reduceToNat, Nat.reduceAdd, Nat.reduceMul, Nat.reduceEqDiff, ↓reduceIte]
      exact endW [some 0] hQ
  · obtain rfl : i = 10 := by omega
    rw [show vXj (bitsOf B) (10 - 10) 10 q a = (0, q, 4) from rfl] at hQ
    simp (disch := (first | omega | (simp only [List.length_append, List.length_set, List.length_cons, List.length_nil, List.length_replicate, List.length_take, List.length_drop, List.length_map, List.length_range, true_and, and_true]; (try omega); done) | fail)) only [go_sem, Int.reduceEq, Int.reduceToNat, Nat.reduceAdd, Nat.reduceMul, Nat.reduceEqDiff, ↓reduceIte]
    exact endW [some 0] hQ
theorem refReadVar_fn {L : List Bool} {p : Nat} (hL : L.length ≤ 1099511627776) (hp : p ≤ L.length) : Fn1 Try.prog 59 [.row 1 (L.map be), .lit (.int .i64 (p : Int))] []
    (.tup [.lit (.int .u64 ((vX L p).1 : Int)), .lit (.int .i64 ((vX L p).2.1 : Int)), .lit (.int .i64 (vX L p).2.2)]) [] := by
  refine fn1_of pl59 (by kernel_rfl) Try.call59 Try.func59 rfl (by kernel_rfl) rfl [.tmp 4, .tmp 5, .tmp 6] (by kernel_rfl) fun Q hQ => ?_
  simp (disch := (first | omega | (simp only [List.length_append, List.length_set, List.length_cons, List.length_nil, List.length_replicate, List.length_take, List.length_drop, List.length_map, List.length_range, true_and, and_true]; (try omega); done) | fail)) only [go_sem, Int.reduceEq, Int.reduceToNat, Nat.reduceAdd, Nat.reduceMul, Nat.reduceEqDiff, ↓reduceIte]
  refine LoopV_of (X := Nat × Nat × Nat) (st := fun x => ([(0, .row 1 (L.map be)), (1, .lit (.int .i64 (x.2.1 : Int))), (7, .lit (.int .u64 (x.2.2 : Int))), (8, .lit (.int .i64 (x.1 : Int)))], []))
    (inv := fun x => x.1 ≤ 10 ∧ x.2.1 ≤ L.length ∧ x.2.2 < 2 ^ (7 * x.1) ∧ vX L p = vXj L (10 - x.1) x.1 x.2.1 x.2.2) (m := fun x => 10 - x.1) (0, p, 0) [] rfl (by simp (disch := (first | omega | (simp only [List.length_append, List.length_set, List.length_cons, List.length_nil, List.length_replicate, List.length_take, List.length_drop, List.length_map, List.length_range, true_and, and_true]; (try omega); done) | fail)) only [go_sem, Int.reduceEq, Int.reduceToNat, Nat.reduceAdd, Nat.reduceMul, Nat.reduceEqDiff, ↓reduceIte, true_and, and_true, and_self, List.drop_zero, List.take_length, Nat.le_refl, V.lit.injEq, Value.int.injEq, Value.bool.injEq]; try (first | omega | (simp; done) | (simp; omega))) (by simp (disch := (first | omega | (simp only [List.length_append, List.length_set, List.length_cons, List.length_nil, List.length_replicate, List.length_take, List.length_drop, List.length_map, List.length_range, true_and, and_true]; (try omega); done) | fail)) only [go_sem, Int.reduceEq, Int.reduceToNat, Nat.reduceAdd, Nat.reduceMul, Nat.reduceEqDiff, ↓reduceIte, true_and, and_true, and_self, List.drop_zero, List.take_length, Nat.le_refl, V.lit.injEq, Value.int.injEq, Value.bool.injEq]; try (first | omega | (simp; done) | (simp; omega))) ⟨by simp, hp, by simp, rfl⟩ ?_
  rintro ⟨i, q, a⟩ ⟨hi, hq, ha, hv⟩
  simp only at hi hq ha hv
  rw [hv] at hQ
  by_cases h10 : i < 10
  · obtain ⟨j, hj⟩ : ∃ j, 10 - i = j + 1 := ⟨9 - i, by omega⟩
    rw [hj] at hQ
    simp (disch := (first | omega | (simp only [List.length_append, List.length_set, List.length_cons, List.length_nil, List.length_replicate, List.length_take, List.length_drop, List.length_map, List.length_range, true_and, and_true]; (try omega); done) | fail)) only [go_sem, Int.reduceEq, Int.reduceToNat, Nat.reduceAdd, Nat.reduceMul, Nat.reduceEqDiff, ↓reduceIte]
    refine callV0 (refGetX_fn (L := L) (p := q) (w := 8) hL hq) rfl rfl ?_
    by_cases hr : q + 8 ≤ L.length
    · rw [rX8_ok hr]
      obtain ⟨x, hx⟩ : ∃ x, numOf ((L.drop q).take 8) = x := ⟨_, rfl⟩
      have hx8 := numOf_lt ((L.drop q).take 8)
      have hln : ((L.drop q).take 8).length = 8 := by simp; omega
      rw [hln, hx] at hx8
      rw [vXj_ok hr hx] at hQ
      rw [hx]
      have hc : (x : Int) % 128 = ((x % 128 : Nat) : Int) := by omega
      have e7 : (7 * (i : Int)).toNat = 7 * i := by omega
      have hxm : x % 128 < 128 := Nat.mod_lt _ (by decide)
      by_cases hbad : (i = 9 ∧ 1 < x % 128) ∨ (0 < i ∧ x = 0)
      · rw [if_pos hbad] at hQ
        by_cases h9 : i = 9
        · by_cases h8 : 1 < x % 128
          · simp (disch := (first | omega | (simp only [List.length_append, List.length_set, List.length_cons, List.length_nil, List.length_replicate, List.length_take, List.length_drop, List.length_map, List.length_range, true_and, and_true]; (try omega); done) | fail)) only [go_sem, hc, Int.reduceEq, Int.reduceToNat, Nat.reduceAdd, Nat.reduceMul, Nat.reduceEqDiff, ↓reduceIte]
            exact endW [] hQ
          · simp (disch := (first | omega | (simp only [List.length_append, List.length_set, List.length_cons, List.length_nil, List.length_replicate, List.length_take, List.length_drop, List.length_map, List.length_range, true_and, and_true]; (try omega); done) | fail)) only [go_sem, hc, Int.reduceEq, Int.reduceToNat, Nat.reduceAdd, Nat.reduceMul, Nat.reduceEqDiff, ↓reduceIte]
            exact endW [] hQ
        · simp (disch := (first | omega | (simp only [List.length_append, List.length_set, List.length_cons, List.length_nil, List.length_replicate, List.length_take, List.length_drop, List.length_map, List.length_range, true_and, and_true]; (try omega); done) | fail)) only [go_sem, hc, Int.reduceEq, Int.reduceToNat, Nat.reduceAdd, Nat.reduceMul, Nat.reduceEqDiff, ↓reduceIte]
          exact endW [] hQ
      · rw [if_neg hbad] at hQ
        have h91 : i = 9 → x % 128 ≤ 1 := fun h => by
          have : ¬ 1 < x % 128 := fun h' => hbad (.inl ⟨h, h'⟩)
          omega
        have h0 : ¬ (0 < i ∧ x = 0) := fun h => hbad (.inr h)
        have hw := wrap_shl (x := x % 128) (i := i) (by omega) h91 hxm
        have ho := or_shl (x := x % 128) ha (by omega) h91 hxm
        have hs := shl7 (x := x % 128) (i := i) (by omega) h91 hxm
        have hp7 := pow7_succ i
        have hmul : x % 128 * 2 ^ (7 * i) ≤ 127 * 2 ^ (7 * i) := Nat.mul_le_mul_right _ (by omega)
        by_cases hx128 : x < 128
        case' pos => rw [if_pos hx128] at hQ
        case' neg => rw [if_neg hx128] at hQ
        all_goals
          by_cases h9 : i = 9
          case' pos => simp (disch := (first | omega | (simp only [List.length_append, List.length_set, List.length_cons, List.length_nil, List.length_replicate, List.length_take, List.length_drop, List.length_map, List.length_range, true_and, and_true]; (try omega); done) | fail)) only [go_sem, hc, Int.reduceEq, Int.reduceToNat, Nat.reduceAdd, Nat.reduceMul, Nat.reduceEqDiff, ↓reduceIte]
          case' neg => simp (disch := (first | omega | (simp only [List.length_append, List.length_set, List.length_cons, List.length_nil, List.length_replicate, List.length_take, List.length_drop, List.length_map, List.length_range, true_and, and_true]; (try omega); done) | fail)) only [go_sem, hc, Int.reduceEq, Int.reduceToNat, Nat.reduceAdd, Nat.reduceMul, Nat.reduceEqDiff, ↓reduceIte]
        all_goals
          by_cases hi0 : i = 0
          case' pos => simp (disch := (first | omega | (simp only [List.length_append, List.length_set, List.length_cons, List.length_nil, List.length_replicate, List.length_take, List.length_drop, List.length_map, List.length_range, true_and, and_true]; (try omega); done) | fail)) only [go_sem, hc, e7, hw, Int.reduceEq, Int.reduceToNat, Nat.reduceAdd, Nat.reduceMul, Nat.reduceEqDiff, ↓reduceIte]
          case' neg => simp (disch := (first | omega | (simp only [List.length_append, List.length_set, List.length_cons, List.length_nil, List.length_replicate, List.length_take, List.length_drop, List.length_map, List.length_range, true_and, and_true]; (try omega); done) | fail)) only [go_sem, hc, e7, hw, Int.reduceEq, Int.reduceToNat, Nat.reduceAdd, Nat.reduceMul, Nat.reduceEqDiff, ↓reduceIte]
        all_goals
          first
          | omega
          | (exact endW [] hQ)
          | (refine nextW (i + 1, q + 8, a + x % 128 * 2 ^ (7 * i)) [] ⟨by simp only; omega, by simp only; omega, by simp only; omega, by rw [hv, hj, vXj_ok hr hx, if_neg hbad, if_neg hx128]; simp only; rw [show 10 - (i + 1) = j by omega]⟩ (by simp only; omega))
    · rw [rX8_end hr]
      rw [vXj_end hr] at hQ
      simp (disch := (first | omega | (simp only [List.length_append, List.length_set, List.length_cons, List.length_nil, List.length_replicate, List.length_take, List.length_drop, List.length_map, List.length_range, true_and, and_true]; (try omega); done) | fail)) only [go_sem, Int.reduceEq, Int.reduceToNat, Nat.reduceAdd, Nat.reduceMul, Nat.reduceEqDiff, ↓reduceIte]
      exact endW [] hQ
  · obtain rfl : i = 10 := by omega
    rw [show vXj L (10 - 10) 10 q a = (0, q, 4) from rfl] at hQ
    simp (disch := (first | omega | (simp only [List.length_append, List.length_set, List.length_cons, List.length_nil, List.length_replicate, List.length_take, List.length_drop, List.length_map, List.length_range, true_and, and_true]; (try omega); done) | fail)) only [go_sem, Int.reduceEq, Int.reduceToNat, Nat.reduceAdd, Nat.reduceMul, Nat.reduceEqDiff, ↓reduceIte]
    exact endW [] hQ
end Go.Proofs.Ythbcfjlalmhabaa
