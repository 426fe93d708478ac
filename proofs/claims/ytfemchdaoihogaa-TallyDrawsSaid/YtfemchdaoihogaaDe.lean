import Derived.Test.YtfemchdaoihogaaDd
/-! Package nat: a digit of a quotient. -/
namespace Go.Proofs.Ytfemchdaoihogaa
open Go.Eng Go.Vx
set_option linter.unusedSimpArgs false
set_option linter.unusedVariables false
set_option maxRecDepth 100000
theorem prt_full {P N S : List Nat} {B k U : Nat} (h : N.length = k) : prt P N (fw B k U ++ S) = P ++ (N ++ S) := by
  unfold prt
  rw [List.drop_left' (by rw [fw_len, h])]
theorem fwT_val {B k U : Nat} {S : List Nat} (hB : 0 < B) (hU : U < B ^ k) : valB B ((fw B k U ++ S).take k) = U := by
  rw [List.take_left' (fw_len k U), fw_val hB, Nat.mod_eq_of_lt hU]
theorem fwT_lt {B k U : Nat} {S : List Nat} (hB : 0 < B) (hS : ∀ d ∈ S, d < B) : ∀ d ∈ fw B k U ++ S, d < B := fun d hd => by
  rcases List.mem_append.1 hd with h | h
  · exact fw_lt hB k U d h
  · exact hS d h
theorem take_step {Bi B nw p bo c tt bo' c' A1 A2 V1 V2 : Nat} (hk : bo + c + nw + p = tt + B * bo' + B * c') (h : V1 + A1 = V2 + Bi * bo + Bi * c) (hp : A2 = A1 + Bi * p) :
    V1 + Bi * nw + A2 = V2 + Bi * tt + Bi * B * bo' + Bi * B * c' := by
  have := congrArg (Bi * ·) hk
  simp only [Nat.mul_add, ← Nat.mul_assoc] at this
  rw [hp]
  generalize Bi * bo = a1 at *
  generalize Bi * c = a2 at *
  generalize Bi * nw = a3 at *
  generalize Bi * p = a4 at *
  generalize Bi * tt = a5 at *
  generalize Bi * B * bo' = a6 at *
  generalize Bi * B * c' = a7 at *
  omega
set_option maxHeartbeats 2000000 in
theorem take_fn {P S dl : List Nat} {U t n : Nat} (hn : dl.length = n) (hdl : ∀ d ∈ dl, d < 18446744073709551616) (hS : ∀ d ∈ S, d < 18446744073709551616) (hU : U < 18446744073709551616 ^ (n + 1)) (ht : t < 18446744073709551616) (hsz : P.length + (n + 1) + S.length ≤ 4000000) :
    Fn1 Try.prog 99 [.sl 0 1 P.length (n + 1), .row 1 ((nl dl).map (ie .u64)), .lit (.int .u64 (t : Int))] [some (.row 1 ((nl (P ++ (fw 18446744073709551616 (n + 1) U ++ S))).map (ie .u64)))]
    (.lit (.int .i64 ((if U < t * valB 18446744073709551616 dl then 1 else 0 : Nat) : Int))) [some (.row 1 ((nl (P ++ (fw 18446744073709551616 (n + 1) (U + 18446744073709551616 ^ (n + 1) * (if U < t * valB 18446744073709551616 dl then 1 else 0) - t * valB 18446744073709551616 dl) ++ S))).map (ie .u64)))] := by
  refine fn1_of pl99 (by kernel_rfl) Try.call99 Try.func99 rfl (by kernel_rfl) rfl [.tmp 6] (by kernel_rfl) fun Q hQ => ?_
  have hTl : (fw 18446744073709551616 (n + 1) U ++ S).length = n + 1 + S.length := by rw [List.length_append, fw_len]
  have hTv := fwT_val (S := S) (by decide) hU
  have hTw := fwT_lt (U := U) (k := n + 1) (by decide) hS
  have hfull := fun N => prt_full (P := P) (N := N) (S := S) (B := 18446744073709551616) (k := n + 1) (U := U)
  generalize hT : fw 18446744073709551616 (n + 1) U ++ S = T at *
  have hnd := nl_len dl
  have hpT := nl_len (P ++ T)
  rw [List.length_append] at hpT
  simp (maxSteps := 1000000) (disch := (first | omega | (simp only [List.length_append, List.length_set, List.length_cons, List.length_nil, List.length_replicate, List.length_take, List.length_drop, List.length_map, List.length_range, true_and, and_true]; (try omega); done) | fail)) only [go_sem, Int.reduceEq, Int.reduceToNat, Nat.reduceAdd, Nat.reduceMul, Nat.reduceEqDiff, ↓reduceIte]
  refine LoopV_of (X := List Nat × Nat × Nat) (st := fun z => ([(0, .sl 0 1 P.length (n + 1)), (1, .row 1 ((nl dl).map (ie .u64))), (2, .lit (.int .u64 (t : Int))), (7, .lit (.int .u64 (z.2.1 : Int))), (8, .lit (.int .u64 (z.2.2 : Int))), (15, .row 1 ((nl dl).map (ie .u64))), (16, .lit (.int .i64 (n : Int))), (17, .lit (.int .i64 (z.1.length : Int)))], [some (.row 1 ((nl (prt P z.1 T)).map (ie .u64)))]))
    (inv := fun z => z.1.length ≤ n ∧ (∀ d ∈ z.1, d < 18446744073709551616) ∧ z.2.1 < 18446744073709551616 ∧ z.2.2 ≤ 1 ∧ valB 18446744073709551616 z.1 + t * valB 18446744073709551616 (dl.take z.1.length) = valB 18446744073709551616 (T.take z.1.length) + 18446744073709551616 ^ z.1.length * z.2.2 + 18446744073709551616 ^ z.1.length * z.2.1)
    (m := fun z => n - z.1.length) ([], 0, 0) [some 0] rfl (by simp only [prt_nil]; (simp (disch := (first | omega | (simp only [List.length_append, List.length_set, List.length_cons, List.length_nil, List.length_replicate, List.length_take, List.length_drop, List.length_map, List.length_range, true_and, and_true]; (try omega); done) | fail)) only [go_sem, Int.reduceEq, Int.reduceToNat, Nat.reduceAdd, Nat.reduceMul, Nat.reduceEqDiff, ↓reduceIte, true_and, and_true, and_self, List.drop_zero, List.take_length, Nat.le_refl, V.lit.injEq, Value.int.injEq, Value.bool.injEq]; try (first | omega | (simp; done) | (simp; omega)))) (by simp (disch := (first | omega | (simp only [List.length_append, List.length_set, List.length_cons, List.length_nil, List.length_replicate, List.length_take, List.length_drop, List.length_map, List.length_range, true_and, and_true]; (try omega); done) | fail)) only [go_sem, Int.reduceEq, Int.reduceToNat, Nat.reduceAdd, Nat.reduceMul, Nat.reduceEqDiff, ↓reduceIte, true_and, and_true, and_self, List.drop_zero, List.take_length, Nat.le_refl, V.lit.injEq, Value.int.injEq, Value.bool.injEq]; try (first | omega | (simp; done) | (simp; omega))) ⟨by simp, by simp, by simp, by simp, by simp [valB]⟩ ?_
  rintro ⟨N, c, bo⟩ ⟨hi, hN, hc, hb, hv⟩
  simp only at hi hN hc hb hv ⊢
  have hprl := prt_len (P := P) (N := N) (T := T) (by omega)
  have hnp := nl_len (prt P N T)
  have hgu := fun (i : Nat) (h : N.length ≤ i) (h2 : i < T.length) => (nl_get (prt P N T) (P.length + i)).trans (by rw [prt_get h h2])
  have hset : ∀ x : Nat, (nl (prt P N T)).set (P.length + N.length) (x : Int) = nl (prt P (N ++ [x]) T) := fun x => by rw [nl_set, prt_set (by omega)]
  have hxu := getD_ltB (by decide) hTw N.length
  have htu := valB_take' (B := 18446744073709551616) T N.length
  by_cases h1 : N.length < n
  · have hgd := nl_get dl N.length
    have hxd := getD_ltB (by decide) hdl N.length
    have htd := valB_take' (B := 18446744073709551616) dl N.length
    have hgu := hgu N.length (Nat.le_refl _) (by omega)
    generalize T.getD N.length 0 = u at *
    generalize dl.getD N.length 0 = y at *
    have hyt : y * t ≤ 18446744073709551615 * 18446744073709551615 := Nat.mul_le_mul (by omega) (by omega)
    have hm64 := mul64_fn (x := y) (y := t) hxd ht
    have hpp : t * valB 18446744073709551616 (dl.take (N.length + 1)) = t * valB 18446744073709551616 (dl.take N.length) + 18446744073709551616 ^ N.length * (y * t) := by
      rw [htd, Nat.mul_add, Nat.mul_left_comm, Nat.mul_comm t y]
    generalize y * t = p at *
    have e0 : 18446744073709551615 * 18446744073709551615 = 340282366920938463426481119284349108225 := by decide
    rw [e0] at hyt
    have hlo : (p % 18446744073709551616 + c + 0) % 18446744073709551616 < 18446744073709551616 := Nat.mod_lt _ (by decide)
    have hcc : p / 18446744073709551616 + (p % 18446744073709551616 + c + 0) / 18446744073709551616 < 18446744073709551616 := by omega
    have hsum : (p / 18446744073709551616 + (p % 18446744073709551616 + c + 0) / 18446744073709551616) * 18446744073709551616 + (p % 18446744073709551616 + c + 0) % 18446744073709551616 = p + c := by omega
    generalize hlo1 : (p % 18446744073709551616 + c + 0) % 18446744073709551616 = lo at *
    generalize hc1 : (p % 18446744073709551616 + c + 0) / 18446744073709551616 = c1 at *
    obtain ⟨q1, q2, q3⟩ := sub_digit hxu hlo hb
    have hq1 : ((p / 18446744073709551616 : Nat) : Int) + (c1 : Int) = ((p / 18446744073709551616 + c1 : Nat) : Int) := by omega
    generalize hnw : (u + 18446744073709551616 - lo - bo) % 18446744073709551616 = nw at *
    generalize hb' : (if u < lo + bo then 1 else 0) = b' at *
    generalize hc' : p / 18446744073709551616 + c1 = c' at *
    have hinv := take_step (Bi := 18446744073709551616 ^ N.length) (B := 18446744073709551616) (nw := nw) (p := p) (tt := u) (bo' := b') (c' := c') (by omega) hv hpp
    rw [← Nat.pow_succ, ← htu, ← valB_snoc] at hinv
    have hls : (N ++ [nw]).length = N.length + 1 := by simp
    simp (maxSteps := 1000000) (disch := (first | omega | (simp only [List.length_append, List.length_set, List.length_cons, List.length_nil, List.length_replicate, List.length_take, List.length_drop, List.length_map, List.length_range, true_and, and_true]; (try omega); done) | fail)) only [go_sem, hgd, Int.reduceEq, Int.reduceToNat, Nat.reduceAdd, Nat.reduceMul, Nat.reduceEqDiff, ↓reduceIte]
    refine callV0 (hm64) rfl rfl ?_
    simp (maxSteps := 1000000) (disch := (first | omega | (simp only [List.length_append, List.length_set, List.length_cons, List.length_nil, List.length_replicate, List.length_take, List.length_drop, List.length_map, List.length_range, true_and, and_true]; (try omega); done) | fail)) only [go_sem, Int.reduceEq, Int.reduceToNat, Nat.reduceAdd, Nat.reduceMul, Nat.reduceEqDiff, ↓reduceIte]
    refine call_add64 (c := 0) Try.func77 (by kernel_rfl) (by kernel_rfl) (by kernel_rfl) (by kernel_rfl) (by omega) ?_
    rw [hlo1, hc1]
    simp (maxSteps := 1000000) (disch := (first | omega | (simp only [List.length_append, List.length_set, List.length_cons, List.length_nil, List.length_replicate, List.length_take, List.length_drop, List.length_map, List.length_range, true_and, and_true]; (try omega); done) | fail)) only [go_sem, hq1, hgu, Int.reduceEq, Int.reduceToNat, Nat.reduceAdd, Nat.reduceMul, Nat.reduceEqDiff, ↓reduceIte]
    refine call_sub64 Try.func78 (by kernel_rfl) (by kernel_rfl) (by kernel_rfl) (by kernel_rfl) (by omega) ?_
    rw [hnw, hb']
    simp (maxSteps := 1000000) (disch := (first | omega | (simp only [List.length_append, List.length_set, List.length_cons, List.length_nil, List.length_replicate, List.length_take, List.length_drop, List.length_map, List.length_range, true_and, and_true]; (try omega); done) | fail)) only [go_sem, hset, Int.reduceEq, Int.reduceToNat, Nat.reduceAdd, Nat.reduceMul, Nat.reduceEqDiff, ↓reduceIte]
    refine NextV_of (N ++ [nw], c', b') [some 0] rfl (by rw [hls]; (simp (disch := (first | omega | (simp only [List.length_append, List.length_set, List.length_cons, List.length_nil, List.length_replicate, List.length_take, List.length_drop, List.length_map, List.length_range, true_and, and_true]; (try omega); done) | fail)) only [go_sem, Int.reduceEq, Int.reduceToNat, Nat.reduceAdd, Nat.reduceMul, Nat.reduceEqDiff, ↓reduceIte, true_and, and_true, and_self, List.drop_zero, List.take_length, Nat.le_refl, V.lit.injEq, Value.int.injEq, Value.bool.injEq]; try (first | omega | (simp; done) | (simp; omega)))) (by (simp (disch := (first | omega | (simp only [List.length_append, List.length_set, List.length_cons, List.length_nil, List.length_replicate, List.length_take, List.length_drop, List.length_map, List.length_range, true_and, and_true]; (try omega); done) | fail)) only [go_sem, Int.reduceEq, Int.reduceToNat, Nat.reduceAdd, Nat.reduceMul, Nat.reduceEqDiff, ↓reduceIte, true_and, and_true, and_self, List.drop_zero, List.take_length, Nat.le_refl, V.lit.injEq, Value.int.injEq, Value.bool.injEq]; try (first | omega | (simp; done) | (simp; omega)))) ⟨by simp only; omega, snocB hN q3, hcc, q2, by simp only [hls]; rw [hinv, Nat.pow_succ]⟩ (by simp only; omega)
  · obtain rfl : n = N.length := by omega
    have hgu := hgu N.length (Nat.le_refl _) (by omega)
    generalize T.getD N.length 0 = u at *
    obtain ⟨q1, q2, q3⟩ := sub_digit hxu hc hb
    have hnd2 : (nl dl).length = N.length := by omega
    have hdf : dl.take N.length = dl := List.take_of_length_le (by omega)
    rw [hdf] at hv
    generalize hnw : (u + 18446744073709551616 - c - bo) % 18446744073709551616 = nw at *
    have hb0 : ∀ b', (if u < c + bo then 1 else 0) = b' → valB 18446744073709551616 (N ++ [nw]) + t * valB 18446744073709551616 dl = U + 18446744073709551616 ^ (N.length + 1) * b' := fun b' e => by
      rw [e] at q1
      have hinv := take_step (Bi := 18446744073709551616 ^ N.length) (B := 18446744073709551616) (nw := nw) (p := 0) (tt := u) (bo' := b') (c' := 0) (A2 := t * valB 18446744073709551616 dl) (by omega) hv (by omega)
      rw [← Nat.pow_succ, ← htu, ← valB_snoc, hTv, Nat.mul_zero, Nat.add_zero] at hinv
      exact hinv
    have hNv := valB_lt (B := 18446744073709551616) (l := N ++ [nw]) (snocB hN q3)
    rw [List.length_append, List.length_singleton] at hNv
    have hif : (if u < c + bo then 1 else 0) = (if U < t * valB 18446744073709551616 dl then 1 else 0 : Nat) := by
      by_cases hc1 : u < c + bo
      · have e := hb0 1 (if_pos hc1)
        rw [if_pos hc1, if_pos (by omega)]
      · have e := hb0 0 (if_neg hc1)
        rw [if_neg hc1, if_neg (by omega)]
    have e := hb0 _ hif
    have hval : valB 18446744073709551616 (N ++ [nw]) = U + 18446744073709551616 ^ (N.length + 1) * (if U < t * valB 18446744073709551616 dl then 1 else 0) - t * valB 18446744073709551616 dl := by omega
    have hfw := fw_eq (B := 18446744073709551616) (l := N ++ [nw]) (k := N.length + 1) (snocB hN q3) (by simp) hval
    have hend := hfull (N ++ [nw]) (by simp)
    rw [hfw] at hQ
    clear hb0 hval hfw e
    generalize hbb : (if U < t * valB 18446744073709551616 dl then 1 else 0 : Nat) = bb at *
    have hb1 : bb ≤ 1 := by rw [← hbb]; split <;> omega
    simp (maxSteps := 1000000) (disch := (first | omega | (simp only [List.length_append, List.length_set, List.length_cons, List.length_nil, List.length_replicate, List.length_take, List.length_drop, List.length_map, List.length_range, true_and, and_true]; (try omega); done) | fail)) only [go_sem, hnd2, hgu, Int.reduceEq, Int.reduceToNat, Nat.reduceAdd, Nat.reduceMul, Nat.reduceEqDiff, ↓reduceIte]
    refine call_sub64 Try.func78 (by kernel_rfl) (by kernel_rfl) (by kernel_rfl) (by kernel_rfl) (by omega) ?_
    rw [hnw, hif]
    simp (maxSteps := 1000000) (disch := (first | omega | (simp only [List.length_append, List.length_set, List.length_cons, List.length_nil, List.length_replicate, List.length_take, List.length_drop, List.length_map, List.length_range, true_and, and_true]; (try omega); done) | fail)) only [go_sem, hset, hend, Int.reduceEq, Int.reduceToNat, Nat.reduceAdd, Nat.reduceMul, Nat.reduceEqDiff, ↓reduceIte]
    exact endW [some 0] hQ
end Go.Proofs.Ytfemchdaoihogaa
