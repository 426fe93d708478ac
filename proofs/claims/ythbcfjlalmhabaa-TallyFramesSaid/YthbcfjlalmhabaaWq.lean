import Derived.Test.YthbcfjlalmhabaaWo
/-! PackReads. -/
namespace Go.Proofs.Ythbcfjlalmhabaa
open Go.Eng Go.Vx
set_option linter.unusedSimpArgs false
set_option linter.unusedVariables false
set_option maxRecDepth 100000
theorem isB_take {B : List Int} (h : IsB B) (n : Nat) : IsB (B.take n) := fun x hx => h x (List.mem_of_mem_take hx)
theorem isB_pk2 (L : List Bool) : IsB (pk L) := by
  intro x hx
  unfold pk pkTo at hx
  obtain ⟨k, _, rfl⟩ := List.mem_map.1 hx
  have := byteV_lt L k
  omega
theorem packReads_fn {a0 a1 a2 : Int} {B : List Int} (hI : IsB B) (hB : B.length ≤ 9223372036854775807) : Fn1 Try.prog 11 [.agg [.lit (.int .i64 a0), .lit (.int .i64 a1), .lit (.int .i64 a2)], .row 1 (B.map (ie .u8))] [] (.lit (.bool true)) [] := by
  refine fn1_of pl11 (by kernel_rfl) Try.call11 Try.func11 rfl (by kernel_rfl) rfl [.tmp 4] (by kernel_rfl) fun Q hQ => ?_
  simp (disch := (first | omega | (simp only [List.length_append, List.length_set, List.length_cons, List.length_nil, List.length_replicate, List.length_take, List.length_drop, List.length_map, List.length_range, true_and, and_true]; (try omega); done) | fail)) only [go_sem, Int.reduceEq, Int.reduceToNat, Nat.reduceAdd, Nat.reduceMul, Nat.reduceEqDiff, ↓reduceIte]
  refine callV0 (awake3_fn) rfl rfl ?_
  have hIt := isB_take hI 200
  have htl : (B.take 200).length ≤ 200 := by simp; omega
  by_cases hlen : 200 < B.length
  case' pos =>
    simp (disch := (first | omega | (simp only [List.length_append, List.length_set, List.length_cons, List.length_nil, List.length_replicate, List.length_take, List.length_drop, List.length_map, List.length_range, true_and, and_true]; (try omega); done) | fail)) only [go_sem, Int.reduceEq, Int.reduceToNat, Nat.reduceAdd, Nat.reduceMul, Nat.reduceEqDiff, ↓reduceIte]
    obtain ⟨C, hC⟩ : ∃ C, C = B.take 200 := ⟨_, rfl⟩
    have hCI : IsB C := by rw [hC]; exact hIt
    have hCl : C.length ≤ 200 := by rw [hC]; exact htl
    rw [← hC]
  case' neg =>
    simp (disch := (first | omega | (simp only [List.length_append, List.length_set, List.length_cons, List.length_nil, List.length_replicate, List.length_take, List.length_drop, List.length_map, List.length_range, true_and, and_true]; (try omega); done) | fail)) only [go_sem, Int.reduceEq, Int.reduceToNat, Nat.reduceAdd, Nat.reduceMul, Nat.reduceEqDiff, ↓reduceIte]
    obtain ⟨C, hC⟩ : ∃ C, C = B := ⟨_, rfl⟩
    have hCI : IsB C := by rw [hC]; exact hI
    have hCl : C.length ≤ 200 := by rw [hC]; omega
    rw [← hC]
  all_goals
    clear hC htl hIt hlen
    obtain ⟨n, hn⟩ : ∃ n : Nat, max 0 (min a0 256) = n := ⟨(max 0 (min a0 256)).toNat, by omega⟩
    obtain ⟨w, hw⟩ : ∃ w : Nat, max 1 (min a1 32) = w := ⟨(max 1 (min a1 32)).toNat, by omega⟩
    obtain ⟨h, hh⟩ : ∃ h : Nat, max 0 (min a2 9) = h := ⟨(max 0 (min a2 9)).toNat, by omega⟩
    have hn2 : n ≤ 256 := by omega
    have hw2 : 1 ≤ w ∧ w ≤ 32 := by omega
    have hh2 : h ≤ 9 := by omega
    rw [hn, hw, hh]
    clear hn hw hh
    have hbl := bitsOf_len C
    have hnw : n * w ≤ 256 * 32 := Nat.mul_le_mul hn2 hw2.2
    have hc : (n : Int) * (w : Int) = ((n * w : Nat) : Int) := by simp
    refine callW [] [] (read_fn (B := C) (by omega)) ?_
    simp (disch := (first | omega | (simp only [List.length_append, List.length_set, List.length_cons, List.length_nil, List.length_replicate, List.length_take, List.length_drop, List.length_map, List.length_range, true_and, and_true]; (try omega); done) | fail)) only [go_sem, Int.reduceEq, Int.reduceToNat, Nat.reduceAdd, Nat.reduceMul, Nat.reduceEqDiff, ↓reduceIte]
    refine callV0 (refBits_fn (B := C) hCI (by omega)) rfl rfl ?_
    by_cases hend : 8 * C.length < h
    · simp (disch := (first | omega | (simp only [List.length_append, List.length_set, List.length_cons, List.length_nil, List.length_replicate, List.length_take, List.length_drop, List.length_map, List.length_range, true_and, and_true]; (try omega); done) | fail)) only [go_sem, Int.reduceEq, Int.reduceToNat, Nat.reduceAdd, Nat.reduceMul, Nat.reduceEqDiff, ↓reduceIte]
      exact endW [] hQ
    · simp (disch := (first | omega | (simp only [List.length_append, List.length_set, List.length_cons, List.length_nil, List.length_replicate, List.length_take, List.length_drop, List.length_map, List.length_range, true_and, and_true]; (try omega); done) | fail)) only [go_sem, Int.reduceEq, Int.reduceToNat, Nat.reduceAdd, Nat.reduceMul, Nat.reduceEqDiff, ↓reduceIte]
      refine callW [some 1] [] (rnum_fn (B := C) (p := 0) (w := h) hCI (by omega) (by omega) (by omega)) ?_
      rw [Nat.zero_add]
      simp (disch := (first | omega | (simp only [List.length_append, List.length_set, List.length_cons, List.length_nil, List.length_replicate, List.length_take, List.length_drop, List.length_map, List.length_range, true_and, and_true]; (try omega); done) | fail)) only [go_sem, Int.reduceEq, Int.reduceToNat, Nat.reduceAdd, Nat.reduceMul, Nat.reduceEqDiff, ↓reduceIte]
      by_cases hfit : h + n * w ≤ 8 * C.length
      · refine callW [some 1] [] (pread_fn (B := C) (p := h) (n := n) (w := w) hCI (by omega) hn2 hw2 hfit) ?_
        have hN := chunk_len (bitsOf C) h w n
        have hNl := chunk_lt (bitsOf C) h w n
        have hW := wbits_chunk (L := bitsOf C) (p := h) (w := w) (n := n) (by omega)
        have hWl := wbits_len w (chunk (bitsOf C) h w n)
        have hlw := words_len (nwd n w) (packN w (chunk (bitsOf C) h w n))
        have hdt : ((bitsOf C).take (h + n * w)).drop h = ((bitsOf C).drop h).take (n * w) := by rw [List.drop_take, Nat.add_sub_cancel_left]
        rw [← hW] at hdt
        have ht2 : ((h : Int) + ((n * w : Nat) : Int)).toNat = h + n * w := by omega
        generalize chunk (bitsOf C) h w n = N at *
        clear hW
        rw [hN] at hWl
        have hpl := pk_len (wbits w N)
        have hbp := bitsOf_pk (wbits w N)
        have hback := fun T => chunk_back (w := w) (T := T) hN hNl
        simp (disch := (first | omega | (simp only [List.length_append, List.length_set, List.length_cons, List.length_nil, List.length_replicate, List.length_take, List.length_drop, List.length_map, List.length_range, true_and, and_true]; (try omega); done) | fail)) only [go_sem, hc, Int.reduceEq, Int.reduceToNat, Nat.reduceAdd, Nat.reduceMul, Nat.reduceEqDiff, ↓reduceIte]
        refine callT (vlen_fn (n := n) (w := w) (L := words (nwd n w) (packN w N))) ?_
        simp (disch := (first | omega | (simp only [List.length_append, List.length_set, List.length_cons, List.length_nil, List.length_replicate, List.length_take, List.length_drop, List.length_map, List.length_range, true_and, and_true]; (try omega); done) | fail)) only [go_sem, hc, Int.reduceEq, Int.reduceToNat, Nat.reduceAdd, Nat.reduceMul, Nat.reduceEqDiff, ↓reduceIte]
        refine callW [some 1] [] (left_fn (B := C) (p := h + n * w) (by omega) (by omega)) ?_
        simp (disch := (first | omega | (simp only [List.length_append, List.length_set, List.length_cons, List.length_nil, List.length_replicate, List.length_take, List.length_drop, List.length_map, List.length_range, true_and, and_true]; (try omega); done) | fail)) only [go_sem, hc, ht2, hdt, Int.reduceEq, Int.reduceToNat, Nat.reduceAdd, Nat.reduceMul, Nat.reduceEqDiff, ↓reduceIte]
        refine callW [some 2, some 3, some 4, none] [] (write_fn (n := n) (w := w) (N := N) (L := []) hn2 hw2 hN hNl (by simp)) ?_
        rw [List.nil_append]
        simp (disch := (first | omega | (simp only [List.length_append, List.length_set, List.length_cons, List.length_nil, List.length_replicate, List.length_take, List.length_drop, List.length_map, List.length_range, true_and, and_true]; (try omega); done) | fail)) only [go_sem, hc, ht2, hdt, Int.reduceEq, Int.reduceToNat, Nat.reduceAdd, Nat.reduceMul, Nat.reduceEqDiff, ↓reduceIte]
        refine callW [some 4, some 6] [] (bytes_fn (L := wbits w N) (by omega)) ?_
        simp (disch := (first | omega | (simp only [List.length_append, List.length_set, List.length_cons, List.length_nil, List.length_replicate, List.length_take, List.length_drop, List.length_map, List.length_range, true_and, and_true]; (try omega); done) | fail)) only [go_sem, Int.reduceEq, Int.reduceToNat, Nat.reduceAdd, Nat.reduceMul, Nat.reduceEqDiff, ↓reduceIte]
        refine callW [] [7] (read_fn (B := pk (wbits w N)) (by omega)) ?_
        simp (disch := (first | omega | (simp only [List.length_append, List.length_set, List.length_cons, List.length_nil, List.length_replicate, List.length_take, List.length_drop, List.length_map, List.length_range, true_and, and_true]; (try omega); done) | fail)) only [go_sem, Int.reduceEq, Int.reduceToNat, Nat.reduceAdd, Nat.reduceMul, Nat.reduceEqDiff, ↓reduceIte]
        refine callW [some 8] [] (pread_fn (B := pk (wbits w N)) (p := 0) (n := n) (w := w) (isB_pk2 _) (by omega) hn2 hw2 (by omega)) ?_
        rw [hbp, hback]
        simp (disch := (first | omega | (simp only [List.length_append, List.length_set, List.length_cons, List.length_nil, List.length_replicate, List.length_take, List.length_drop, List.length_map, List.length_range, true_and, and_true]; (try omega); done) | fail)) only [go_sem, Int.reduceEq, Int.reduceToNat, Nat.reduceAdd, Nat.reduceMul, Nat.reduceEqDiff, ↓reduceIte]
        refine callW [some 4, some 6] [] (bytes_fn (L := wbits w N) (by omega)) ?_
        simp (disch := (first | omega | (simp only [List.length_append, List.length_set, List.length_cons, List.length_nil, List.length_replicate, List.length_take, List.length_drop, List.length_map, List.length_range, true_and, and_true]; (try omega); done) | fail)) only [go_sem, Int.reduceEq, Int.reduceToNat, Nat.reduceAdd, Nat.reduceMul, Nat.reduceEqDiff, ↓reduceIte]
        refine callV0 (refBytes_fn (L := wbits w N) (by omega)) rfl rfl ?_
        simp (disch := (first | omega | (simp only [List.length_append, List.length_set, List.length_cons, List.length_nil, List.length_replicate, List.length_take, List.length_drop, List.length_map, List.length_range, true_and, and_true]; (try omega); done) | fail)) only [go_sem, Int.reduceEq, Int.reduceToNat, Nat.reduceAdd, Nat.reduceMul, Nat.reduceEqDiff, ↓reduceIte]
        refine callT (refSame_fn (A := pk (wbits w N)) (B := pk (wbits w N)) (by omega) (by omega)) ?_
        rw [decide_eq_true rfl]
        simp (disch := (first | omega | (simp only [List.length_append, List.length_set, List.length_cons, List.length_nil, List.length_replicate, List.length_take, List.length_drop, List.length_map, List.length_range, true_and, and_true]; (try omega); done) | fail)) only [go_sem, Int.reduceEq, Int.reduceToNat, Nat.reduceAdd, Nat.reduceMul, Nat.reduceEqDiff, ↓reduceIte]
        refine callW [some 4, some 6] [] (len_fn (L := wbits w N)) ?_
        simp (disch := (first | omega | (simp only [List.length_append, List.length_set, List.length_cons, List.length_nil, List.length_replicate, List.length_take, List.length_drop, List.length_map, List.length_range, true_and, and_true]; (try omega); done) | fail)) only [go_sem, hc, hWl, Int.reduceEq, Int.reduceToNat, Nat.reduceAdd, Nat.reduceMul, Nat.reduceEqDiff, ↓reduceIte]
        refine callT (sameV_fn (n := n) (w := w) (X := packN w N) (Y := packN w N) hn2 hw2) ?_
        rw [decide_eq_true rfl]
        simp (disch := (first | omega | (simp only [List.length_append, List.length_set, List.length_cons, List.length_nil, List.length_replicate, List.length_take, List.length_drop, List.length_map, List.length_range, true_and, and_true]; (try omega); done) | fail)) only [go_sem, Int.reduceEq, Int.reduceToNat, Nat.reduceAdd, Nat.reduceMul, Nat.reduceEqDiff, ↓reduceIte]
        exact endW [] hQ
      · refine callW [some 1] [] (preadE_fn (B := C) (p := h) (n := n) (w := w) hCI (by omega) hn2 hw2 (by omega) (by omega)) ?_
        simp (disch := (first | omega | (simp only [List.length_append, List.length_set, List.length_cons, List.length_nil, List.length_replicate, List.length_take, List.length_drop, List.length_map, List.length_range, true_and, and_true]; (try omega); done) | fail)) only [go_sem, hc, Int.reduceEq, Int.reduceToNat, Nat.reduceAdd, Nat.reduceMul, Nat.reduceEqDiff, ↓reduceIte]
        exact endW [] hQ
end Go.Proofs.Ythbcfjlalmhabaa
