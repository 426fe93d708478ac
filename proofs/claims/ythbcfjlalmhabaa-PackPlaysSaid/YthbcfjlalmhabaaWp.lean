import Derived.Test.YthbcfjlalmhabaaWo
/-! PackPlays. -/
namespace Go.Proofs.Ythbcfjlalmhabaa
open Go.Eng Go.Vx
set_option linter.unusedSimpArgs false
set_option linter.unusedVariables false
set_option maxRecDepth 100000
/-- An act: number i becomes n. -/
structure ActN where
  i : Int
  n : Nat
deriving Inhabited
def actE (x : ActN) : List PV := [.lit (.int .i64 x.i), .lit (.int .u64 (x.n : Int))]
@[go_sem] theorem actE_eq {x : ActN} : actE x = [.lit (.int .i64 x.i), .lit (.int .u64 (x.n : Int))] := (rfl)
/-- What both come to by an act. -/
theorem act_both {n w : Nat} {N : List Nat} {a : ActN} (hn : n ≤ 256) (hw : 1 ≤ w ∧ w ≤ 32) (hN : N.length = n) (hl : ∀ x ∈ N, x < 2 ^ w) (ha : a.n < 18446744073709551616) :
    ∃ (M : List Nat) (e : Int), M.length = n ∧ (∀ x ∈ M, x < 2 ^ w) ∧
      Fn1 Try.prog 49 [.ref 0 0 0 0, .lit (.int .i64 a.i), .lit (.int .u64 a.n)] [some (vcC 1 n w), some (vcR n w (packN w N))] (.lit (.int .i64 e)) [some (vcC 1 n w), some (vcR n w (packN w M))] ∧
      Fn1 Try.prog 50 [.row 1 ((nl N).map (ie .u64)), .lit (.int .i64 w), .agg [.lit (.int .i64 a.i), .lit (.int .u64 a.n)]] [] (.tup [.row 1 ((nl M).map (ie .u64)), .lit (.int .i64 e)]) [] := by
  obtain ⟨I, x⟩ := a
  simp only at ha ⊢
  by_cases hI : I < 0 ∨ n ≤ I
  · exact ⟨N, 1, hN, hl, setB_fn hn hI, refSetB_fn (by omega) (by omega)⟩
  · obtain ⟨i, rfl⟩ := Int.eq_ofNat_of_zero_le (show 0 ≤ I by omega)
    by_cases hx : x < 2 ^ w
    · exact ⟨N.set i x, 0, by simpa using hN, set_lt hl hx, setN_fn hn hw (by omega) hx hN hl, refSet_fn (by omega) (by omega) hw.2 ha hx⟩
    · exact ⟨N, 2, hN, hl, setR_fn hn hw (by omega) (by omega), refSetR_fn (by omega) (by omega) hw.2 ha hx⟩
theorem getD_memA {l : List ActN} {i : Nat} (h : i < l.length) : l.getD i default ∈ l := by
  rw [List.getD_eq_getElem?_getD, List.getElem?_eq_getElem h]; exact List.getElem_mem h
theorem packPlays_fn {n w : Int} {l : List ActN} (hw0 : -9223372036854775808 ≤ n ∧ n ≤ 9223372036854775807) (hl : l.length ≤ 9223372036854775807) (ha : ∀ x ∈ l, x.n < 18446744073709551616) : Fn1 Try.prog 10 [.lit (.int .i64 n), .lit (.int .i64 w), .row 2 (l.map actE)] [] (.lit (.bool true)) [] := by
  refine fn1_of pl10 (by kernel_rfl) Try.call10 Try.func10 rfl (by kernel_rfl) rfl [.tmp 6] (by kernel_rfl) fun Q hQ => ?_
  simp (disch := (first | omega | (simp only [List.length_append, List.length_set, List.length_cons, List.length_nil, List.length_replicate, List.length_take, List.length_drop, List.length_map, List.length_range, true_and, and_true]; (try omega); done) | fail)) only [go_sem, Int.reduceEq, Int.reduceToNat, Nat.reduceAdd, Nat.reduceMul, Nat.reduceEqDiff, ↓reduceIte]
  refine callV0 (awake3_fn) rfl rfl ?_
  simp (disch := (first | omega | (simp only [List.length_append, List.length_set, List.length_cons, List.length_nil, List.length_replicate, List.length_take, List.length_drop, List.length_map, List.length_range, true_and, and_true]; (try omega); done) | fail)) only [go_sem, Int.reduceEq, Int.reduceToNat, Nat.reduceAdd, Nat.reduceMul, Nat.reduceEqDiff, ↓reduceIte]
  by_cases hb : min n 300 < 0 ∨ 256 < min n 300 ∨ w < 1 ∨ 32 < w
  · refine callV0 (newB_fn hb) rfl rfl ?_
    by_cases h1 : min n 300 < 0
    · simp (disch := (first | omega | (simp only [List.length_append, List.length_set, List.length_cons, List.length_nil, List.length_replicate, List.length_take, List.length_drop, List.length_map, List.length_range, true_and, and_true]; (try omega); done) | fail)) only [go_sem, Int.reduceEq, Int.reduceToNat, Nat.reduceAdd, Nat.reduceMul, Nat.reduceEqDiff, ↓reduceIte]
      exact endW [] hQ
    · by_cases h2 : 256 < min n 300
      · simp (disch := (first | omega | (simp only [List.length_append, List.length_set, List.length_cons, List.length_nil, List.length_replicate, List.length_take, List.length_drop, List.length_map, List.length_range, true_and, and_true]; (try omega); done) | fail)) only [go_sem, Int.reduceEq, Int.reduceToNat, Nat.reduceAdd, Nat.reduceMul, Nat.reduceEqDiff, ↓reduceIte]
        exact endW [] hQ
      · by_cases h3 : w < 1
        · simp (disch := (first | omega | (simp only [List.length_append, List.length_set, List.length_cons, List.length_nil, List.length_replicate, List.length_take, List.length_drop, List.length_map, List.length_range, true_and, and_true]; (try omega); done) | fail)) only [go_sem, Int.reduceEq, Int.reduceToNat, Nat.reduceAdd, Nat.reduceMul, Nat.reduceEqDiff, ↓reduceIte]
          exact endW [] hQ
        · simp (disch := (first | omega | (simp only [List.length_append, List.length_set, List.length_cons, List.length_nil, List.length_replicate, List.length_take, List.length_drop, List.length_map, List.length_range, true_and, and_true]; (try omega); done) | fail)) only [go_sem, Int.reduceEq, Int.reduceToNat, Nat.reduceAdd, Nat.reduceMul, Nat.reduceEqDiff, ↓reduceIte]
          exact endW [] hQ
  · have e : min n 300 = n := by omega
    rw [e]
    obtain ⟨k, rfl⟩ := Int.eq_ofNat_of_zero_le (show 0 ≤ n by omega)
    obtain ⟨v, rfl⟩ := Int.eq_ofNat_of_zero_le (show 0 ≤ w by omega)
    have hk : k ≤ 256 := by omega
    have hv : 1 ≤ v ∧ v ≤ 32 := by omega
    refine callW [] [] (new_fn (n := k) (w := v) hk hv) ?_
    have hlw := words_len (nwd k v) 0
    simp (disch := (first | omega | (simp only [List.length_append, List.length_set, List.length_cons, List.length_nil, List.length_replicate, List.length_take, List.length_drop, List.length_map, List.length_range, true_and, and_true]; (try omega); done) | fail)) only [go_sem, Int.reduceEq, Int.reduceToNat, Nat.reduceAdd, Nat.reduceMul, Nat.reduceEqDiff, ↓reduceIte]
    refine callT (width_fn (n := k) (w := v) (L := words (nwd k v) 0)) ?_
    simp (disch := (first | omega | (simp only [List.length_append, List.length_set, List.length_cons, List.length_nil, List.length_replicate, List.length_take, List.length_drop, List.length_map, List.length_range, true_and, and_true]; (try omega); done) | fail)) only [go_sem, Int.reduceEq, Int.reduceToNat, Nat.reduceAdd, Nat.reduceMul, Nat.reduceEqDiff, ↓reduceIte]
    refine LoopV_of (X := Nat × List Nat) (st := fun x => ([(0, .lit (.int .i64 (k : Int))), (1, .lit (.int .i64 (v : Int))), (2, .row 2 (l.map actE)), (7, .ref 0 0 0 0), (9, .row 1 ((nl x.2).map (ie .u64))), (10, .lit (.int .i64 (x.1 : Int)))], [some (vcC 1 k v), some (vcR k v (packN v x.2))]))
      (inv := fun x => x.1 ≤ 60 ∧ x.2.length = k ∧ ∀ y ∈ x.2, y < 2 ^ v) (m := fun x => 60 - x.1) (0, List.replicate k 0) [some 0, some 1] rfl (by simp only [packN_rep]; (simp (disch := (first | omega | (simp only [List.length_append, List.length_set, List.length_cons, List.length_nil, List.length_replicate, List.length_take, List.length_drop, List.length_map, List.length_range, true_and, and_true]; (try omega); done) | fail)) only [go_sem, Int.reduceEq, Int.reduceToNat, Nat.reduceAdd, Nat.reduceMul, Nat.reduceEqDiff, ↓reduceIte, true_and, and_true, and_self, List.drop_zero, List.take_length, Nat.le_refl, V.lit.injEq, Value.int.injEq, Value.bool.injEq]; try (first | omega | (simp; done) | (simp; omega)))) (by simp only [← nl_rep]; (simp (disch := (first | omega | (simp only [List.length_append, List.length_set, List.length_cons, List.length_nil, List.length_replicate, List.length_take, List.length_drop, List.length_map, List.length_range, true_and, and_true]; (try omega); done) | fail)) only [go_sem, Int.reduceEq, Int.reduceToNat, Nat.reduceAdd, Nat.reduceMul, Nat.reduceEqDiff, ↓reduceIte, true_and, and_true, and_self, List.drop_zero, List.take_length, Nat.le_refl, V.lit.injEq, Value.int.injEq, Value.bool.injEq]; try (first | omega | (simp; done) | (simp; omega)))) ⟨by simp, by simp, rep_lt k v⟩ ?_
    rintro ⟨i, N⟩ ⟨hi, hN, hNl⟩
    simp only at hi hN hNl ⊢
    have hnl := nl_len N
    have hlN := words_len (nwd k v) (packN v N)
    by_cases h1 : i < l.length
    · by_cases h2 : i < 60
      · obtain ⟨M, e', hM, hMl, hset, href⟩ := act_both (a := l.getD i default) hk hv hN hNl (ha _ (getD_memA h1))
        have hnm := nl_len M
        have hlM := words_len (nwd k v) (packN v M)
        obtain ⟨a, hx⟩ : ∃ a, l.getD i default = a := ⟨_, rfl⟩
        rw [hx] at hset href
        simp (disch := (first | omega | (simp only [List.length_append, List.length_set, List.length_cons, List.length_nil, List.length_replicate, List.length_take, List.length_drop, List.length_map, List.length_range, true_and, and_true]; (try omega); done) | fail)) only [go_sem, hx, Int.reduceEq, Int.reduceToNat, Nat.reduceAdd, Nat.reduceMul, Nat.reduceEqDiff, ↓reduceIte]
        refine callF (cloneV_fn (n := k) (w := v) (X := packN v N) hk hv) ?_
        simp (disch := (first | omega | (simp only [List.length_append, List.length_set, List.length_cons, List.length_nil, List.length_replicate, List.length_take, List.length_drop, List.length_map, List.length_range, true_and, and_true]; (try omega); done) | fail)) only [go_sem, hx, Int.reduceEq, Int.reduceToNat, Nat.reduceAdd, Nat.reduceMul, Nat.reduceEqDiff, ↓reduceIte]
        refine callW [some 0, some 1] [] (hset) ?_
        simp (disch := (first | omega | (simp only [List.length_append, List.length_set, List.length_cons, List.length_nil, List.length_replicate, List.length_take, List.length_drop, List.length_map, List.length_range, true_and, and_true]; (try omega); done) | fail)) only [go_sem, hx, Int.reduceEq, Int.reduceToNat, Nat.reduceAdd, Nat.reduceMul, Nat.reduceEqDiff, ↓reduceIte]
        refine callV0 (href) rfl rfl ?_
        simp (disch := (first | omega | (simp only [List.length_append, List.length_set, List.length_cons, List.length_nil, List.length_replicate, List.length_take, List.length_drop, List.length_map, List.length_range, true_and, and_true]; (try omega); done) | fail)) only [go_sem, Int.reduceEq, Int.reduceToNat, Nat.reduceAdd, Nat.reduceMul, Nat.reduceEqDiff, ↓reduceIte]
        refine callT (is3_fn (n := k) (w := v) (N := N) hk hv hN hNl) ?_
        simp (disch := (first | omega | (simp only [List.length_append, List.length_set, List.length_cons, List.length_nil, List.length_replicate, List.length_take, List.length_drop, List.length_map, List.length_range, true_and, and_true]; (try omega); done) | fail)) only [go_sem, Int.reduceEq, Int.reduceToNat, Nat.reduceAdd, Nat.reduceMul, Nat.reduceEqDiff, ↓reduceIte]
        refine callT (is3_fn (n := k) (w := v) (N := M) hk hv hM hMl) ?_
        simp (disch := (first | omega | (simp only [List.length_append, List.length_set, List.length_cons, List.length_nil, List.length_replicate, List.length_take, List.length_drop, List.length_map, List.length_range, true_and, and_true]; (try omega); done) | fail)) only [go_sem, Int.reduceEq, Int.reduceToNat, Nat.reduceAdd, Nat.reduceMul, Nat.reduceEqDiff, ↓reduceIte]
        refine LoopV_of (X := Nat) (st := fun j => ([(0, .lit (.int .i64 (k : Int))), (1, .lit (.int .i64 (v : Int))), (2, .row 2 (l.map actE)), (7, .ref 0 0 0 0), (9, .row 1 ((nl N).map (ie .u64))), (10, .lit (.int .i64 (i : Int))), (11, .ref 2 0 0 0), (13, .row 1 ((nl M).map (ie .u64))), (15, .lit (.bool (decide ((nl N).take j = (nl M).take j)))), (111, .lit (.int .i64 (k : Int))), (112, .lit (.int .i64 (j : Int)))], [some (vcC 1 k v), some (vcR k v (packN v M)), some (vcC 3 k v), some (vcR k v (packN v N))]))
          (inv := fun j => j ≤ k) (m := fun j => k - j) 0 [some 0, some 1, some 2, some 3] rfl (by simp (disch := (first | omega | (simp only [List.length_append, List.length_set, List.length_cons, List.length_nil, List.length_replicate, List.length_take, List.length_drop, List.length_map, List.length_range, true_and, and_true]; (try omega); done) | fail)) only [go_sem, Int.reduceEq, Int.reduceToNat, Nat.reduceAdd, Nat.reduceMul, Nat.reduceEqDiff, ↓reduceIte, true_and, and_true, and_self, List.drop_zero, List.take_length, Nat.le_refl, V.lit.injEq, Value.int.injEq, Value.bool.injEq]; try (first | omega | (simp; done) | (simp; omega))) (by simp only [List.take_zero, decide_true]; (simp (disch := (first | omega | (simp only [List.length_append, List.length_set, List.length_cons, List.length_nil, List.length_replicate, List.length_take, List.length_drop, List.length_map, List.length_range, true_and, and_true]; (try omega); done) | fail)) only [go_sem, Int.reduceEq, Int.reduceToNat, Nat.reduceAdd, Nat.reduceMul, Nat.reduceEqDiff, ↓reduceIte, true_and, and_true, and_self, List.drop_zero, List.take_length, Nat.le_refl, V.lit.injEq, Value.int.injEq, Value.bool.injEq]; try (first | omega | (simp; done) | (simp; omega)))) (by omega) ?_
        intro j hj
        by_cases h : j < k
        · have ht := takeI_succ (show j < (nl N).length by omega) (show j < (nl M).length by omega)
          by_cases hs : (nl N).take j = (nl M).take j
          · have hd : decide ((nl N).take (j + 1) = (nl M).take (j + 1)) = decide ((nl N).getD j 0 = (nl M).getD j 0) := by rw [decide_eq_decide, ht]; simp [hs]
            simp (disch := (first | omega | (simp only [List.length_append, List.length_set, List.length_cons, List.length_nil, List.length_replicate, List.length_take, List.length_drop, List.length_map, List.length_range, true_and, and_true]; (try omega); done) | fail)) only [go_sem, decide_eq_true hs, Int.reduceEq, Int.reduceToNat, Nat.reduceAdd, Nat.reduceMul, Nat.reduceEqDiff, ↓reduceIte]
            refine NextV_of (j + 1) [some 0, some 1, some 2, some 3] rfl (by simp (disch := (first | omega | (simp only [List.length_append, List.length_set, List.length_cons, List.length_nil, List.length_replicate, List.length_take, List.length_drop, List.length_map, List.length_range, true_and, and_true]; (try omega); done) | fail)) only [go_sem, Int.reduceEq, Int.reduceToNat, Nat.reduceAdd, Nat.reduceMul, Nat.reduceEqDiff, ↓reduceIte, true_and, and_true, and_self, List.drop_zero, List.take_length, Nat.le_refl, V.lit.injEq, Value.int.injEq, Value.bool.injEq]; try (first | omega | (simp; done) | (simp; omega))) (by dsimp only; rw [hd]; (simp (disch := (first | omega | (simp only [List.length_append, List.length_set, List.length_cons, List.length_nil, List.length_replicate, List.length_take, List.length_drop, List.length_map, List.length_range, true_and, and_true]; (try omega); done) | fail)) only [go_sem, Int.reduceEq, Int.reduceToNat, Nat.reduceAdd, Nat.reduceMul, Nat.reduceEqDiff, ↓reduceIte, true_and, and_true, and_self, List.drop_zero, List.take_length, Nat.le_refl, V.lit.injEq, Value.int.injEq, Value.bool.injEq]; try (first | omega | (simp; done) | (simp; omega)))) (by omega) (by omega)
          · have hd : decide ((nl N).take (j + 1) = (nl M).take (j + 1)) = false := by rw [decide_eq_false_iff_not, ht]; simp [hs]
            simp (disch := (first | omega | (simp only [List.length_append, List.length_set, List.length_cons, List.length_nil, List.length_replicate, List.length_take, List.length_drop, List.length_map, List.length_range, true_and, and_true]; (try omega); done) | fail)) only [go_sem, decide_eq_false hs, Int.reduceEq, Int.reduceToNat, Nat.reduceAdd, Nat.reduceMul, Nat.reduceEqDiff, ↓reduceIte]
            refine NextV_of (j + 1) [some 0, some 1, some 2, some 3] rfl (by simp (disch := (first | omega | (simp only [List.length_append, List.length_set, List.length_cons, List.length_nil, List.length_replicate, List.length_take, List.length_drop, List.length_map, List.length_range, true_and, and_true]; (try omega); done) | fail)) only [go_sem, Int.reduceEq, Int.reduceToNat, Nat.reduceAdd, Nat.reduceMul, Nat.reduceEqDiff, ↓reduceIte, true_and, and_true, and_self, List.drop_zero, List.take_length, Nat.le_refl, V.lit.injEq, Value.int.injEq, Value.bool.injEq]; try (first | omega | (simp; done) | (simp; omega))) (by dsimp only; rw [hd]; (simp (disch := (first | omega | (simp only [List.length_append, List.length_set, List.length_cons, List.length_nil, List.length_replicate, List.length_take, List.length_drop, List.length_map, List.length_range, true_and, and_true]; (try omega); done) | fail)) only [go_sem, Int.reduceEq, Int.reduceToNat, Nat.reduceAdd, Nat.reduceMul, Nat.reduceEqDiff, ↓reduceIte, true_and, and_true, and_self, List.drop_zero, List.take_length, Nat.le_refl, V.lit.injEq, Value.int.injEq, Value.bool.injEq]; try (first | omega | (simp; done) | (simp; omega)))) (by omega) (by omega)
        · have q1 : (nl N).take j = nl N := List.take_of_length_le (by omega)
          have q2 : (nl M).take j = nl M := List.take_of_length_le (by omega)
          have q3 : decide (words (nwd k v) (packN v M) = words (nwd k v) (packN v N)) = decide (nl N = nl M) := by
            rw [decide_eq_decide, words_eq (by omega) hM hN hMl hNl, nl_inj]; exact ⟨fun e => e.symm, fun e => e.symm⟩
          have q4 : decide (words (nwd k v) (packN v N) = words (nwd k v) (packN v M)) = decide (nl N = nl M) := by
            rw [decide_eq_decide, words_eq (by omega) hN hM hNl hMl, nl_inj]
          simp (disch := (first | omega | (simp only [List.length_append, List.length_set, List.length_cons, List.length_nil, List.length_replicate, List.length_take, List.length_drop, List.length_map, List.length_range, true_and, and_true]; (try omega); done) | fail)) only [go_sem, q1, q2, Int.reduceEq, Int.reduceToNat, Nat.reduceAdd, Nat.reduceMul, Nat.reduceEqDiff, ↓reduceIte]
          refine callT (sameV_fn (n := k) (w := v) (X := packN v M) (Y := packN v N) hk hv) ?_
          simp (disch := (first | omega | (simp only [List.length_append, List.length_set, List.length_cons, List.length_nil, List.length_replicate, List.length_take, List.length_drop, List.length_map, List.length_range, true_and, and_true]; (try omega); done) | fail)) only [go_sem, q3, beq_self_eq_true, Int.reduceEq, Int.reduceToNat, Nat.reduceAdd, Nat.reduceMul, Nat.reduceEqDiff, ↓reduceIte]
          refine callT (sameV_fn (n := k) (w := v) (X := packN v N) (Y := packN v M) hk hv) ?_
          simp (disch := (first | omega | (simp only [List.length_append, List.length_set, List.length_cons, List.length_nil, List.length_replicate, List.length_take, List.length_drop, List.length_map, List.length_range, true_and, and_true]; (try omega); done) | fail)) only [go_sem, q4, beq_self_eq_true, Int.reduceEq, Int.reduceToNat, Nat.reduceAdd, Nat.reduceMul, Nat.reduceEqDiff, ↓reduceIte]
          refine nextW (i + 1, M) [some 0, some 1] ⟨by simp only; omega, hM, hMl⟩ (by simp only; omega)
      · simp (disch := (first | omega | (simp only [List.length_append, List.length_set, List.length_cons, List.length_nil, List.length_replicate, List.length_take, List.length_drop, List.length_map, List.length_range, true_and, and_true]; (try omega); done) | fail)) only [go_sem, Int.reduceEq, Int.reduceToNat, Nat.reduceAdd, Nat.reduceMul, Nat.reduceEqDiff, ↓reduceIte]
        exact endW [] hQ
    · simp (disch := (first | omega | (simp only [List.length_append, List.length_set, List.length_cons, List.length_nil, List.length_replicate, List.length_take, List.length_drop, List.length_map, List.length_range, true_and, and_true]; (try omega); done) | fail)) only [go_sem, Int.reduceEq, Int.reduceToNat, Nat.reduceAdd, Nat.reduceMul, Nat.reduceEqDiff, ↓reduceIte]
      exact endW [] hQ
end Go.Proofs.Ythbcfjlalmhabaa
