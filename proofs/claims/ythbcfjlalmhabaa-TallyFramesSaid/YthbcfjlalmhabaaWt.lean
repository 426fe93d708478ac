import Derived.Test.YthbcfjlalmhabaaWq
import Derived.Test.YthbcfjlalmhabaaWe
import Derived.Test.YthbcfjlalmhabaaWs
/-! TallyFrames. -/
namespace Go.Proofs.Ythbcfjlalmhabaa
open Go.Eng Go.Vx
set_option linter.unusedSimpArgs false
set_option linter.unusedVariables false
set_option maxRecDepth 100000
theorem bytesR2_fn {L : List Bool} (hm : L.length < 1099511627776) : Fn1 Try.prog 20 [.ref 0 0 0 0] [some (wrC 1 L), some (wrR L)] (.row 1 ((pk L).map (ie .u8))) [some (wrC 1 L), some (wrR L)] := by
  refine fn1_of pl20 (by kernel_rfl) Try.call20 Try.func20 rfl (by kernel_rfl) rfl [.tmp 2] (by kernel_rfl) fun Q hQ => ?_
  have hpl := pk_len L
  have e : List.take 0 (List.replicate (pk L).length (0 : Int)) ++ List.take (pk L).length (pk L) ++ List.drop (List.take (pk L).length (pk L)).length (List.replicate (pk L).length 0) = pk L := by simp
  simp (disch := (first | omega | (simp only [List.length_append, List.length_set, List.length_cons, List.length_nil, List.length_replicate, List.length_take, List.length_drop, List.length_map, List.length_range, true_and, and_true]; (try omega); done) | fail)) only [go_sem, Int.reduceEq, Int.reduceToNat, Nat.reduceAdd, Nat.reduceMul, Nat.reduceEqDiff, ↓reduceIte]
  rw [e]
  exact endW [some 0, some 1] hQ
/-- Bytes as plain numbers. -/
theorem nat_bytes {B : List Int} (h : IsB B) : ∃ l : List Nat, nl l = B ∧ ∀ x ∈ l, x < 256 := by
  refine ⟨B.map Int.toNat, ?_, fun x hx => ?_⟩
  · unfold nl
    rw [List.map_map]
    conv => rhs; rw [← List.map_id B]
    refine List.map_congr_left fun x hx => ?_
    exact Int.toNat_of_nonneg (h x hx).1
  · obtain ⟨y, hy, rfl⟩ := List.mem_map.1 hx
    have := h y hy
    omega
theorem place_of (a : Int) (m : Nat) (hm : 0 < m) : (-(m : Int) < a.tmod m ∧ a.tmod m < m) ∧ ∃ p : Nat, (a.tmod m + m) % m = p ∧ p < m := by
  have h1 : a.tmod m < m := Int.tmod_lt_of_pos a (by omega)
  have h2 : -(m : Int) < a.tmod m := by
    have := Int.tmod_lt_of_pos (-a) (show (0 : Int) < m by omega)
    rw [Int.neg_tmod] at this
    omega
  refine ⟨⟨h2, h1⟩, ((a.tmod m + m) % m).toNat, ?_, ?_⟩
  · rw [Int.toNat_of_nonneg (Int.emod_nonneg _ (by omega))]
  · have h3 := Int.emod_lt_of_pos (a.tmod m + m) (show (0 : Int) < m by omega)
    have h4 := Int.emod_nonneg (a.tmod m + m) (show (m : Int) ≠ 0 by omega)
    omega
set_option maxHeartbeats 1000000 in
theorem tallyFrames_fn {a0 a1 b0 b1 : Int} {L : List Int} (hl : L.length ≤ 9223372036854775807) (hL : ∀ x ∈ L, 0 ≤ x ∧ x < 18446744073709551616) :
    Fn1 Try.prog 13 [.agg [.lit (.int .i64 a0), .lit (.int .i64 a1), .row 1 (L.map (ie .u64)), .lit (.int .i64 b0), .lit (.int .i64 b1)]] [] (.lit (.bool true)) [] := by
  refine fn1_of pl13 (by kernel_rfl) Try.call13 Try.func13 rfl (by kernel_rfl) rfl [.tmp 2] (by kernel_rfl) fun Q hQ => ?_
  simp (disch := (first | omega | (simp only [List.length_append, List.length_set, List.length_cons, List.length_nil, List.length_replicate, List.length_take, List.length_drop, List.length_map, List.length_range, true_and, and_true]; (try omega); done) | fail)) only [go_sem, Int.reduceEq, Int.reduceToNat, Nat.reduceAdd, Nat.reduceMul, Nat.reduceEqDiff, ↓reduceIte]
  obtain ⟨n, hn⟩ : ∃ n : Nat, 1 + a0 % 64 = n := ⟨(1 + a0 % 64).toNat, by omega⟩
  obtain ⟨w, hw⟩ : ∃ w : Nat, 1 + a1 % 32 = w := ⟨(1 + a1 % 32).toNat, by omega⟩
  have hn2 : 1 ≤ n ∧ n ≤ 64 := by omega
  have hw2 : 1 ≤ w ∧ w ≤ 32 := by omega
  rw [hn, hw]
  clear hn hw
  have hnw : n * w ≤ 64 * 32 := Nat.mul_le_mul hn2.2 hw2.2
  refine callW [] [] (new_fn (n := n) (w := w) (by omega) hw2) ?_
  simp (disch := (first | omega | (simp only [List.length_append, List.length_set, List.length_cons, List.length_nil, List.length_replicate, List.length_take, List.length_drop, List.length_map, List.length_range, true_and, and_true]; (try omega); done) | fail)) only [go_sem, Int.reduceEq, Int.reduceToNat, Nat.reduceAdd, Nat.reduceMul, Nat.reduceEqDiff, ↓reduceIte]
  refine LoopV_of (X := Nat × List Nat) (st := fun x => ([(3, .lit (.int .i64 (n : Int))), (4, .lit (.int .i64 (w : Int))), (5, .row 1 (L.map (ie .u64))), (6, .ref 0 0 0 0), (7, .ref 1 0 0 0), (9, .lit (.int .i64 (x.1 : Int)))], [some (.cells [.lit (.int .i64 b0), .lit (.int .i64 b1)]), some (vcC 2 n w), some (vcR n w (packN w x.2))]))
    (inv := fun x => x.1 ≤ n ∧ x.2.length = n ∧ ∀ y ∈ x.2, y < 2 ^ w) (m := fun x => n - x.1) (0, List.replicate n 0) [some 1, some 2, some 3] rfl (by simp only [packN_rep]; (simp (disch := (first | omega | (simp only [List.length_append, List.length_set, List.length_cons, List.length_nil, List.length_replicate, List.length_take, List.length_drop, List.length_map, List.length_range, true_and, and_true]; (try omega); done) | fail)) only [go_sem, Int.reduceEq, Int.reduceToNat, Nat.reduceAdd, Nat.reduceMul, Nat.reduceEqDiff, ↓reduceIte, true_and, and_true, and_self, List.drop_zero, List.take_length, Nat.le_refl, V.lit.injEq, Value.int.injEq, Value.bool.injEq]; try (first | omega | (simp; done) | (simp; omega)))) (by simp (disch := (first | omega | (simp only [List.length_append, List.length_set, List.length_cons, List.length_nil, List.length_replicate, List.length_take, List.length_drop, List.length_map, List.length_range, true_and, and_true]; (try omega); done) | fail)) only [go_sem, Int.reduceEq, Int.reduceToNat, Nat.reduceAdd, Nat.reduceMul, Nat.reduceEqDiff, ↓reduceIte, true_and, and_true, and_self, List.drop_zero, List.take_length, Nat.le_refl, V.lit.injEq, Value.int.injEq, Value.bool.injEq]; try (first | omega | (simp; done) | (simp; omega))) ⟨by simp, by simp, rep_lt n w⟩ ?_
  rintro ⟨i, N⟩ ⟨hi, hN, hNl⟩
  simp only at hi hN hNl ⊢
  have hpw := pow_w hw2
  by_cases h1 : i < L.length ∧ i < n
  · obtain ⟨h1, h2⟩ := h1
    have hx := hL _ (show L.getD i 0 ∈ L by rw [List.getD_eq_getElem?_getD, List.getElem?_eq_getElem h1]; exact List.getElem_mem h1)
    obtain ⟨x, hxe⟩ := Int.eq_ofNat_of_zero_le hx.1
    rw [hxe] at hx
    have hs := sh1_u64 (k := w) (by omega)
    have hc : ((2 ^ w : Nat) : Int) - 1 = ((2 ^ w - 1 : Nat) : Int) := by omega
    have hww : IntKind.u64.wrap ((2 ^ w - 1 : Nat) : Int) = ((2 ^ w - 1 : Nat) : Int) := by
      generalize 2 ^ w - 1 = y at *
      simp (disch := (first | omega | (simp only [List.length_append, List.length_set, List.length_cons, List.length_nil, List.length_replicate, List.length_take, List.length_drop, List.length_map, List.length_range, true_and, and_true]; (try omega); done) | fail)) only [go_sem, Int.reduceEq, Int.reduceToNat, Nat.reduceAdd, Nat.reduceMul, Nat.reduceEqDiff, ↓reduceIte]
    have hand := and_mask (x := x) (w := w) (by omega) hpw.2
    have hxm : x % 2 ^ w < 2 ^ w := Nat.mod_lt _ (Nat.two_pow_pos _)
    simp (disch := (first | omega | (simp only [List.length_append, List.length_set, List.length_cons, List.length_nil, List.length_replicate, List.length_take, List.length_drop, List.length_map, List.length_range, true_and, and_true]; (try omega); done) | fail)) only [go_sem, hxe, hs, hc, hww, hand, Int.reduceEq, Int.reduceToNat, Nat.reduceAdd, Nat.reduceMul, Nat.reduceEqDiff, ↓reduceIte]
    refine callW [some 1, some 2] [] (setN_fn (n := n) (w := w) (i := i) (x := x % 2 ^ w) (N := N) (by omega) hw2 h2 hxm hN hNl) ?_
    simp (disch := (first | omega | (simp only [List.length_append, List.length_set, List.length_cons, List.length_nil, List.length_replicate, List.length_take, List.length_drop, List.length_map, List.length_range, true_and, and_true]; (try omega); done) | fail)) only [go_sem, Int.reduceEq, Int.reduceToNat, Nat.reduceAdd, Nat.reduceMul, Nat.reduceEqDiff, ↓reduceIte]
    refine nextW (i + 1, N.set i (x % 2 ^ w)) [some 0, some 1, some 2] ⟨by simp only; omega, by simpa using hN, set_lt hNl hxm⟩ (by simp only; omega)
  · have hW := wbits_len w N
    rw [hN] at hW
    have hpl := pk_len (wbits w N)
    have hI := isB_pk2 (wbits w N)
    have hbl := bitsOf_len (pk (wbits w N))
    have hback := fun T => chunk_back (w := w) (T := T) hN hNl
    have hbp := bitsOf_pk (wbits w N)
    have hcl := pk_close (wbits w N)
    obtain ⟨l, hle, hlb⟩ := nat_bytes hI
    have hll := congrArg List.length hle
    rw [nl_len] at hll
    have hlw := words_len (nwd n w) (packN w N)
    have hsb := sealN_lt hlb
    have hsl := sealN_len l
    have hst : (sealN l).take ((sealN l).length - 4) = l := by rw [hsl, Nat.add_sub_cancel]; exact sealN_take l
    have hns := nl_len (sealN l)
    obtain ⟨⟨q1, q2⟩, p, hp, hpl2⟩ := place_of b0 (sealN l).length (by omega)
    obtain ⟨⟨r1, r2⟩, q, hq, hql⟩ := place_of b1 (sealN l).length (by omega)
    by_cases h2 : i < L.length
    case' pos =>
      have h3 : ¬ i < n := fun h => h1 ⟨h2, h⟩
      simp (disch := (first | omega | (simp only [List.length_append, List.length_set, List.length_cons, List.length_nil, List.length_replicate, List.length_take, List.length_drop, List.length_map, List.length_range, true_and, and_true]; (try omega); done) | fail)) only [go_sem, Int.reduceEq, Int.reduceToNat, Nat.reduceAdd, Nat.reduceMul, Nat.reduceEqDiff, ↓reduceIte]
    case' neg =>
      simp (disch := (first | omega | (simp only [List.length_append, List.length_set, List.length_cons, List.length_nil, List.length_replicate, List.length_take, List.length_drop, List.length_map, List.length_range, true_and, and_true]; (try omega); done) | fail)) only [go_sem, Int.reduceEq, Int.reduceToNat, Nat.reduceAdd, Nat.reduceMul, Nat.reduceEqDiff, ↓reduceIte]
    all_goals
      refine callW [some 1, some 2, some 3, none] [] (write_fn (n := n) (w := w) (N := N) (L := []) (by omega) hw2 hN hNl (by simp)) ?_
      rw [List.nil_append]
      simp (disch := (first | omega | (simp only [List.length_append, List.length_set, List.length_cons, List.length_nil, List.length_replicate, List.length_take, List.length_drop, List.length_map, List.length_range, true_and, and_true]; (try omega); done) | fail)) only [go_sem, Int.reduceEq, Int.reduceToNat, Nat.reduceAdd, Nat.reduceMul, Nat.reduceEqDiff, ↓reduceIte]
      refine callW [some 3, some 5] [] (bytesR2_fn (L := wbits w N) (by omega)) ?_
      rw [← hle]
      simp (disch := (first | omega | (simp only [List.length_append, List.length_set, List.length_cons, List.length_nil, List.length_replicate, List.length_take, List.length_drop, List.length_map, List.length_range, true_and, and_true]; (try omega); done) | fail)) only [go_sem, Int.reduceEq, Int.reduceToNat, Nat.reduceAdd, Nat.reduceMul, Nat.reduceEqDiff, ↓reduceIte]
      refine callV0 (seal_fn (l := l) hlb (by omega)) rfl rfl ?_
      simp (disch := (first | omega | (simp only [List.length_append, List.length_set, List.length_cons, List.length_nil, List.length_replicate, List.length_take, List.length_drop, List.length_map, List.length_range, true_and, and_true]; (try omega); done) | fail)) only [go_sem, Int.reduceEq, Int.reduceToNat, Nat.reduceAdd, Nat.reduceMul, Nat.reduceEqDiff, ↓reduceIte]
      refine callV0 (open_fn (l := sealN l) hsb (by omega) (by omega) (by rw [hst])) rfl rfl ?_
      rw [hst, hle]
      simp (disch := (first | omega | (simp only [List.length_append, List.length_set, List.length_cons, List.length_nil, List.length_replicate, List.length_take, List.length_drop, List.length_map, List.length_range, true_and, and_true]; (try omega); done) | fail)) only [go_sem, Int.reduceEq, Int.reduceToNat, Nat.reduceAdd, Nat.reduceMul, Nat.reduceEqDiff, ↓reduceIte]
      refine callW [] [] (read_fn (B := pk (wbits w N)) (by omega)) ?_
      simp (disch := (first | omega | (simp only [List.length_append, List.length_set, List.length_cons, List.length_nil, List.length_replicate, List.length_take, List.length_drop, List.length_map, List.length_range, true_and, and_true]; (try omega); done) | fail)) only [go_sem, Int.reduceEq, Int.reduceToNat, Nat.reduceAdd, Nat.reduceMul, Nat.reduceEqDiff, ↓reduceIte]
      refine callW [some 6] [] (pread_fn (B := pk (wbits w N)) (p := 0) (n := n) (w := w) hI (by omega) (by omega) hw2 (by omega)) ?_
      rw [hbp, hback]
      simp (disch := (first | omega | (simp only [List.length_append, List.length_set, List.length_cons, List.length_nil, List.length_replicate, List.length_take, List.length_drop, List.length_map, List.length_range, true_and, and_true]; (try omega); done) | fail)) only [go_sem, Int.reduceEq, Int.reduceToNat, Nat.reduceAdd, Nat.reduceMul, Nat.reduceEqDiff, ↓reduceIte]
      refine callT (sameV_fn (n := n) (w := w) (X := packN w N) (Y := packN w N) (by omega) hw2) ?_
      rw [decide_eq_true rfl]
      simp (disch := (first | omega | (simp only [List.length_append, List.length_set, List.length_cons, List.length_nil, List.length_replicate, List.length_take, List.length_drop, List.length_map, List.length_range, true_and, and_true]; (try omega); done) | fail)) only [go_sem, Int.reduceEq, Int.reduceToNat, Nat.reduceAdd, Nat.reduceMul, Nat.reduceEqDiff, ↓reduceIte]
      refine callW [some 6] [] (close_fn (B := pk (wbits w N)) (p := 0 + n * w) hI (by omega) (by omega)) ?_
      rw [Nat.zero_add, ← hW, hcl]
      have hwrap : ∀ x : Int, -(((sealN l).length : Nat) : Int) < x → x < (sealN l).length → IntKind.i64.wrap (x + ((sealN l).length : Nat)) = x + ((sealN l).length : Nat) := fun x a1 a2 => by
        have : ((sealN l).length : Int) ≤ 1000000 := by omega
        generalize (sealN l).length = m at *
        generalize hy : x + (m : Int) = y at *
        have h1 : -9223372036854775808 ≤ y ∧ y ≤ 9223372036854775807 := by omega
        simp (disch := (first | omega | (simp only [List.length_append, List.length_set, List.length_cons, List.length_nil, List.length_replicate, List.length_take, List.length_drop, List.length_map, List.length_range, true_and, and_true]; (try omega); done) | fail)) only [go_sem, Int.reduceEq, Int.reduceToNat, Nat.reduceAdd, Nat.reduceMul, Nat.reduceEqDiff, ↓reduceIte]
      have hg1 := nl_get (sealN l) p
      have hx1 := getD_lt256 hsb p
      have hx2 := getD_lt256 hsb q
      have e1 : bitK .xor .u8 (((sealN l).getD p 0 : Nat) : Int) 85 = (((sealN l).getD p 0 ^^^ 85 : Nat) : Int) := xor_u8 (y := 85) hx1 (by decide)
      have e2 : bitK .xor .u8 (((sealN l).getD q 0 : Nat) : Int) 170 = (((sealN l).getD q 0 ^^^ 170 : Nat) : Int) := xor_u8 (y := 170) hx2 (by decide)
      have hxl : (sealN l).getD p 0 ^^^ 85 < 256 := Nat.xor_lt_two_pow (n := 8) hx1 (by decide)
      have hyl : (sealN l).getD q 0 ^^^ 170 < 256 := Nat.xor_lt_two_pow (n := 8) hx2 (by decide)
      have f1 := nl_set (sealN l) p ((sealN l).getD p 0 ^^^ 85)
      by_cases hpq : q = p
      · subst hpq
        have hnn1 : (nl ((sealN l).set q ((sealN l).getD q 0 ^^^ 85))).length = (sealN l).length := by rw [nl_len, List.length_set]
        have hM := one_bad (e := 85) hlb (p := q) (by omega) (by decide) (by decide)
        simp (disch := (first | omega | (simp only [List.length_append, List.length_set, List.length_cons, List.length_nil, List.length_replicate, List.length_take, List.length_drop, List.length_map, List.length_range, true_and, and_true]; (try omega); done) | fail)) only [go_sem, hns, hwrap _ q1 q2, hwrap _ r1 r2, hp, hq, hg1, e1, f1, Int.reduceEq, Int.reduceToNat, Nat.reduceAdd, Nat.reduceMul, Nat.reduceEqDiff, ↓reduceIte]
        refine callW [] [10] (openB_fn (l := (sealN l).set q ((sealN l).getD q 0 ^^^ 85)) (mem_set256 hsb hxl) (by simp; omega) (by simp; omega) (by rw [List.length_set, hsl, Nat.add_sub_cancel]; exact hM)) ?_
        simp (disch := (first | omega | (simp only [List.length_append, List.length_set, List.length_cons, List.length_nil, List.length_replicate, List.length_take, List.length_drop, List.length_map, List.length_range, true_and, and_true]; (try omega); done) | fail)) only [go_sem, Int.reduceEq, Int.reduceToNat, Nat.reduceAdd, Nat.reduceMul, Nat.reduceEqDiff, ↓reduceIte]
        exact endW [] hQ
      · have f2 := nl_set ((sealN l).set p ((sealN l).getD p 0 ^^^ 85)) q ((sealN l).getD q 0 ^^^ 170)
        have hg2 : (nl ((sealN l).set p ((sealN l).getD p 0 ^^^ 85))).getD q 0 = (((sealN l).getD q 0 : Nat) : Int) := by rw [nl_get, getD_set_other (Ne.symm hpq)]
        have hnn : (nl ((sealN l).set p ((sealN l).getD p 0 ^^^ 85))).length = (sealN l).length := by rw [nl_len, List.length_set]
        have hMl := mem_set256 (mem_set256 hsb hxl (i := p)) hyl (i := q)
        have hfar : (sealN ((((sealN l).set p ((sealN l).getD p 0 ^^^ 85)).set q ((sealN l).getD q 0 ^^^ 170)).take ((((sealN l).set p ((sealN l).getD p 0 ^^^ 85)).set q ((sealN l).getD q 0 ^^^ 170)).length - 4)) = ((sealN l).set p ((sealN l).getD p 0 ^^^ 85)).set q ((sealN l).getD q 0 ^^^ 170)) → (p + 3 < q ∨ q + 3 < p) := fun H => by
          rw [List.length_set, List.length_set, hsl, Nat.add_sub_cancel] at H
          rcases Nat.lt_or_ge p q with h | h
          · refine Classical.byContradiction fun hn => two_bad hlb h (by omega) (by omega) (.inl ⟨rfl, rfl⟩) H
          · rw [List.set_comm _ _ (Ne.symm hpq)] at H
            refine Classical.byContradiction fun hn => two_bad hlb (show q < p by omega) (by omega) (by omega) (.inr ⟨rfl, rfl⟩) H
        have hlen : (((sealN l).set p ((sealN l).getD p 0 ^^^ 85)).set q ((sealN l).getD q 0 ^^^ 170)).length = (sealN l).length := by rw [List.length_set, List.length_set]
        simp (disch := (first | omega | (simp only [List.length_append, List.length_set, List.length_cons, List.length_nil, List.length_replicate, List.length_take, List.length_drop, List.length_map, List.length_range, true_and, and_true]; (try omega); done) | fail)) only [go_sem, hns, hwrap _ q1 q2, hwrap _ r1 r2, hp, hq, hg1, e1, f1, hg2, e2, f2, Int.reduceEq, Int.reduceToNat, Nat.reduceAdd, Nat.reduceMul, Nat.reduceEqDiff, ↓reduceIte]
        generalize ((sealN l).set p ((sealN l).getD p 0 ^^^ 85)).set q ((sealN l).getD q 0 ^^^ 170) = M at *
        have hnM := nl_len M
        by_cases hb : sealN (M.take (M.length - 4)) = M
        · have hf := hfar hb
          refine callW [] [10] (open_fn (l := M) hMl (by omega) (by omega) hb) ?_
          by_cases h4 : p + 3 < q
          · simp (disch := (first | omega | (simp only [List.length_append, List.length_set, List.length_cons, List.length_nil, List.length_replicate, List.length_take, List.length_drop, List.length_map, List.length_range, true_and, and_true]; (try omega); done) | fail)) only [go_sem, Int.reduceEq, Int.reduceToNat, Nat.reduceAdd, Nat.reduceMul, Nat.reduceEqDiff, ↓reduceIte]
            exact endW [] hQ
          · simp (disch := (first | omega | (simp only [List.length_append, List.length_set, List.length_cons, List.length_nil, List.length_replicate, List.length_take, List.length_drop, List.length_map, List.length_range, true_and, and_true]; (try omega); done) | fail)) only [go_sem, Int.reduceEq, Int.reduceToNat, Nat.reduceAdd, Nat.reduceMul, Nat.reduceEqDiff, ↓reduceIte]
            exact endW [] hQ
        · refine callW [] [10] (openB_fn (l := M) hMl (by omega) (by omega) hb) ?_
          simp (disch := (first | omega | (simp only [List.length_append, List.length_set, List.length_cons, List.length_nil, List.length_replicate, List.length_take, List.length_drop, List.length_map, List.length_range, true_and, and_true]; (try omega); done) | fail)) only [go_sem, Int.reduceEq, Int.reduceToNat, Nat.reduceAdd, Nat.reduceMul, Nat.reduceEqDiff, ↓reduceIte]
          exact endW [] hQ
end Go.Proofs.Ythbcfjlalmhabaa
