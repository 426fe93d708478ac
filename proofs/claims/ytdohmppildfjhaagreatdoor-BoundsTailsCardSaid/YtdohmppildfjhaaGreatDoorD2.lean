import Derived.Test.YtdohmppildfjhaaGreatDoorDb
import Derived.Test.YtdohmppildfjhaaGreatDoorD1
import Derived.Test.YtdohmppildfjhaaGreatDoorN2
namespace Go.Proofs.YtdohmppildfjhaaGreatDoor
open Go.Eng Go.Vx
set_option linter.unusedSimpArgs false
set_option linter.unusedVariables false
set_option maxRecDepth 100000
theorem mv_digit {x c s : Nat} (hs : s ≤ 63) (hx : x < 18446744073709551616) (hc : c < 2 ^ s) :
  bitK .or .u64 (c : Int) ((x * 2 ^ s % 18446744073709551616 : Nat) : Int) = ((c + x * 2 ^ s % 18446744073709551616 : Nat) : Int) ∧
  c + x * 2 ^ s % 18446744073709551616 < 18446744073709551616 ∧ x / 2 ^ (64 - s) < 2 ^ s ∧
  c + x * 2 ^ s % 18446744073709551616 + 18446744073709551616 * (x / 2 ^ (64 - s)) = c + x * 2 ^ s := by
 have e : (18446744073709551616 : Nat) = 2 ^ (64 - s) * 2 ^ s := by rw [← Nat.pow_add, show 64 - s + s = 64 by omega]
 have hp : 0 < 2 ^ s := Nat.pow_pos (by decide)
 have hq : 0 < 2 ^ (64 - s) := Nat.pow_pos (by decide)
 have h63 : 2 ^ s ≤ 2 ^ 63 := Nat.pow_le_pow_right (by decide) hs
 have hmm : x * 2 ^ s % 18446744073709551616 = x % 2 ^ (64 - s) * 2 ^ s := by rw [e, Nat.mul_mod_mul_right]
 have hl : x / 2 ^ (64 - s) < 2 ^ s := by rw [Nat.div_lt_iff_lt_mul hq, Nat.mul_comm, ← e]; exact hx
 have hm := Nat.mod_lt x hq
 have hlt : x % 2 ^ (64 - s) * 2 ^ s + 2 ^ s ≤ 18446744073709551616 := by
  have := Nat.mul_le_mul_right (2 ^ s) (show x % 2 ^ (64 - s) + 1 ≤ 2 ^ (64 - s) from hm)
  rw [Nat.add_mul, Nat.one_mul, ← e] at this
  exact this
 refine ⟨?_, by rw [hmm]; omega, hl, ?_⟩
 ·
  have h1 := or_add (A := x % 2 ^ (64 - s)) (B := c) (s := s) (by omega) hc hs
  rw [← hmm] at h1
  rw [or_u64 (by omega) (Nat.mod_lt _ (by decide))] at *
  rw [or_u64 (Nat.mod_lt _ (by decide)) (by omega)] at h1
  rw [Nat.or_comm, Nat.add_comm]
  exact h1
 ·
  have h := Nat.div_add_mod x (2 ^ (64 - s))
  have h2 : 18446744073709551616 * (x / 2 ^ (64 - s)) = 2 ^ (64 - s) * (x / 2 ^ (64 - s)) * 2 ^ s := by
   conv => lhs; rw [e]
   rw [Nat.mul_assoc, Nat.mul_comm (2 ^ s), ← Nat.mul_assoc]
  rw [hmm, h2, Nat.add_assoc, ← Nat.add_mul, Nat.add_comm (x % _), h]
set_option maxHeartbeats 1000000 in
theorem moved_fn {W : List Nat} {s : Nat} (hW : ∀ d ∈ W, d < 18446744073709551616) (hl : W.length ≤ 2000000) (hs : s ≤ 63) : Fn1 Tryz.prog 113 [.row 1 ((nl W).map (ie .u64)), .lit (.int .i64 (s : Int))] [] (.sl 0 1 0 (W.length + 1)) [some (.row 1 ((nl (fw 18446744073709551616 (W.length + 1) (valB 18446744073709551616 W * 2 ^ s))).map (ie .u64)))] := by
 refine fn1N_of pl113 (by kernel_rfl) Tryz.call113 Tryz.func113 rfl (by kernel_rfl) rfl [.tmp 4] (by kernel_rfl) fun Q hQ => ?_
 have hnW := nl_len W
 refine runW ?_
 refine LoopV_of (X := List Nat × Nat) (st := fun z => ([(1, .lit (.int .i64 (s : Int))), (5, .sl 0 1 0 (W.length + 1)), (12, .row 1 ((nl W).map (ie .u64))), (13, .lit (.int .i64 (W.length : Int))), (14, .lit (.int .i64 (z.1.length : Int)))], [some (.row 1 ((nl (pad (z.1 ++ [z.2]) (W.length + 1))).map (ie .u64)))]))
  (inv := fun z => z.1.length ≤ W.length ∧ (∀ d ∈ z.1, d < 18446744073709551616) ∧ z.2 < 2 ^ s ∧ valB 18446744073709551616 z.1 + 18446744073709551616 ^ z.1.length * z.2 = valB 18446744073709551616 (W.take z.1.length) * 2 ^ s)
  (m := fun z => W.length - z.1.length) ([], 0) [some 0] rfl (by simp only [pad, List.nil_append, List.length_singleton, Nat.add_sub_cancel, ← List.replicate_succ, List.singleton_append, ← nl_rep]; (simp (disch := (first | omega | (simp only [lnA, List.length_map, List.length_range, true_and, and_true]; (try omega); done) | fail)) only [go_sem, Int.reduceEq, Int.reduceToNat, Nat.reduceAdd, Nat.reduceMul, Nat.reduceEqDiff, ↓reduceIte, true_and, and_true, and_self, List.drop_zero, List.take_length, Nat.le_refl, V.lit.injEq, Value.int.injEq, Value.bool.injEq]; try (first | omega | (simp; done) | (simp; omega)))) (by simp (disch := (first | omega | (simp only [lnA, List.length_map, List.length_range, true_and, and_true]; (try omega); done) | fail)) only [go_sem, Int.reduceEq, Int.reduceToNat, Nat.reduceAdd, Nat.reduceMul, Nat.reduceEqDiff, ↓reduceIte, true_and, and_true, and_self, List.drop_zero, List.take_length, Nat.le_refl, V.lit.injEq, Value.int.injEq, Value.bool.injEq]; try (first | omega | (simp; done) | (simp; omega))) ⟨by simp, by simp, Nat.pow_pos (by decide), by simp [valB]⟩ ?_
 rintro ⟨L, c⟩ ⟨hi, hL, hc, hv⟩
 simp only at hi hL hc hv ⊢
 have hpl := pad_len (L := L ++ [c]) (k := W.length + 1) (by simp; omega)
 have hnp := nl_len (pad (L ++ [c]) (W.length + 1))
 by_cases h1 : L.length < W.length
 ·
  have hg := nl_get W L.length
  have hx := getD_ltB (by decide) hW L.length
  have htk := valB_take' (B := 18446744073709551616) W L.length
  generalize W.getD L.length 0 = x at *
  obtain ⟨d1, d2, d3, d4⟩ := mv_digit hs hx hc
  have k3 : IntKind.u64.wrap ((x : Int) * 2 ^ s) = ((x * 2 ^ s % 18446744073709551616 : Nat) : Int) := wrap_mul _ _
  have k4 : (64 : Int) - (s : Int) = ((64 - s : Nat) : Int) := by omega
  have k5 : (x : Int) / 2 ^ (64 - s) = ((x / 2 ^ (64 - s) : Nat) : Int) := div_nat x (64 - s)
  have hgc : (nl (pad (L ++ [c]) (W.length + 1))).getD L.length 0 = (c : Int) := by
   rw [nl_get]
   unfold pad
   simp [List.getD_eq_getElem?_getD]
  have hlow : x * 2 ^ s % 18446744073709551616 < 18446744073709551616 := Nat.mod_lt _ (by decide)
  have hinv : valB 18446744073709551616 (L ++ [c + x * 2 ^ s % 18446744073709551616]) + 18446744073709551616 ^ (L.length + 1) * (x / 2 ^ (64 - s)) = valB 18446744073709551616 (W.take (L.length + 1)) * 2 ^ s := by
   rw [valB_snoc, htk, Nat.add_mul, ← hv, Nat.pow_succ]
   have := congrArg (18446744073709551616 ^ L.length * ·) d4
   simp only [Nat.mul_add] at this
   rw [Nat.mul_assoc, Nat.mul_assoc]
   simp only [Nat.mul_add]
   generalize 18446744073709551616 ^ L.length * (x * 2 ^ s) = a1 at *
   generalize 18446744073709551616 ^ L.length * c = a2 at *
   generalize 18446744073709551616 ^ L.length * (x * 2 ^ s % 18446744073709551616) = a3 at *
   generalize 18446744073709551616 ^ L.length * (18446744073709551616 * (x / 2 ^ (64 - s))) = a4 at *
   omega
  generalize x * 2 ^ s % 18446744073709551616 = lo at *
  generalize x / 2 ^ (64 - s) = hi' at *
  have hset : ((nl (pad (L ++ [c]) (W.length + 1))).set L.length ((c + lo : Nat) : Int)).set (L.length + 1) (hi' : Int) = nl (pad ((L ++ [c + lo]) ++ [hi']) (W.length + 1)) := by
   rw [nl_set, nl_set]
   congr 1
   unfold pad
   obtain ⟨m, hm⟩ : ∃ m, W.length + 1 - (L ++ [c]).length = m + 1 := ⟨W.length - L.length - 1, by simp; omega⟩
   have hm2 : W.length + 1 - (L ++ [c + lo] ++ [hi']).length = m := by simp at hm ⊢; omega
   rw [hm, hm2, List.replicate_succ]
   simp
  have hls : (L ++ [c + lo]).length = L.length + 1 := by simp
  have hidx : ((L.length : Int) + 1).toNat = L.length + 1 := by omega
  simp (maxSteps := 1000000) (disch := (first | omega | (simp only [lnA, List.length_map, List.length_range, true_and, and_true]; (try omega); done) | fail)) only [go_sem, hg, k3, k4, k5, hgc, d1, hidx, hset, Int.reduceEq, Int.reduceToNat, Nat.reduceAdd, Nat.reduceMul, Nat.reduceEqDiff, ↓reduceIte]
  refine NextV_of (L ++ [c + lo], hi') [some 0] rfl (by rw [hls]; (simp (disch := (first | omega | (simp only [lnA, List.length_map, List.length_range, true_and, and_true]; (try omega); done) | fail)) only [go_sem, Int.reduceEq, Int.reduceToNat, Nat.reduceAdd, Nat.reduceMul, Nat.reduceEqDiff, ↓reduceIte, true_and, and_true, and_self, List.drop_zero, List.take_length, Nat.le_refl, V.lit.injEq, Value.int.injEq, Value.bool.injEq]; try (first | omega | (simp; done) | (simp; omega)))) (by (simp (disch := (first | omega | (simp only [lnA, List.length_map, List.length_range, true_and, and_true]; (try omega); done) | fail)) only [go_sem, Int.reduceEq, Int.reduceToNat, Nat.reduceAdd, Nat.reduceMul, Nat.reduceEqDiff, ↓reduceIte, true_and, and_true, and_self, List.drop_zero, List.take_length, Nat.le_refl, V.lit.injEq, Value.int.injEq, Value.bool.injEq]; try (first | omega | (simp; done) | (simp; omega)))) ⟨by simp only; omega, snocB hL d2, d3, by simp only [hls]; exact hinv⟩ (by simp only; omega)
 ·
  have hLe : L.length = W.length := by omega
  have hfull : W.take L.length = W := List.take_of_length_le (by omega)
  rw [hfull] at hv
  have h63 : 2 ^ s ≤ 2 ^ 63 := Nat.pow_le_pow_right (by decide) hs
  have hpf := pad_full (L := L ++ [c]) (k := W.length + 1) (by simp; omega)
  have hval : valB 18446744073709551616 (L ++ [c]) = valB 18446744073709551616 W * 2 ^ s := by rw [valB_snoc]; exact hv
  have hfw := fw_eq (B := 18446744073709551616) (l := L ++ [c]) (k := W.length + 1) (snocB hL (by omega)) (by simp; omega) hval
  rw [hfw] at hQ
  rw [hpf]
  refine runW ?_
  exact endW [some 0] hQ
theorem prt_full {P N S : List Nat} {B k U : Nat} (h : N.length = k) : prt P N (fw B k U ++ S) = P ++ (N ++ S) := by
 unfold prt
 rw [List.drop_left' (by rw [fw_len, h])]
theorem fwT_val {B k U : Nat} {S : List Nat} (hB : 0 < B) (hU : U < B ^ k) : valB B ((fw B k U ++ S).take k) = U := by
 rw [List.take_left' (fw_len k U), fw_val hB, Nat.mod_eq_of_lt hU]
theorem fwT_lt {B k U : Nat} {S : List Nat} (hB : 0 < B) (hS : ∀ d ∈ S, d < B) : ∀ d ∈ fw B k U ++ S, d < B := fun d hd => by
 rcases List.mem_append.1 hd with h | h
 ·
  exact fw_lt hB k U d h
 ·
  exact hS d h
theorem take_step {Bi B nw p bo c tt bo' c' A1 A2 V1 V2 : Nat} (hk : bo + c + nw + p = tt + B * bo' + B * c') (h : V1 + A1 = V2 + Bi * bo + Bi * c) (hp : A2 = A1 + Bi * p) :
  V1 + Bi * nw + A2 = V2 + Bi * tt + Bi * B * bo' + Bi * B * c' := by
 have := congrArg (Bi * ·) hk
 simp only [Nat.mul_add, ← Nat.mul_assoc] at this
 rw [hp]
 generalize Bi * bo = a1 at *
 generalize Bi * c = a2 at *
 generalize Bi * nw = a3 at *
 generalize Bi * p = a4 at *
 generalize Bi * tt = a5 at *
 generalize Bi * B * bo' = a6 at *
 generalize Bi * B * c' = a7 at *
 omega
set_option maxHeartbeats 2000000 in
theorem take_fn {P S dl : List Nat} {U t n : Nat} (hn : dl.length = n) (hdl : ∀ d ∈ dl, d < 18446744073709551616) (hS : ∀ d ∈ S, d < 18446744073709551616) (hU : U < 18446744073709551616 ^ (n + 1)) (ht : t < 18446744073709551616) (hsz : P.length + (n + 1) + S.length ≤ 4000000) :
  Fn1 Tryz.prog 147 [.sl 0 1 P.length (n + 1), .row 1 ((nl dl).map (ie .u64)), .lit (.int .u64 (t : Int))] [some (.row 1 ((nl (P ++ (fw 18446744073709551616 (n + 1) U ++ S))).map (ie .u64)))]
  (.lit (.int .i64 ((if U < t * valB 18446744073709551616 dl then 1 else 0 : Nat) : Int))) [some (.row 1 ((nl (P ++ (fw 18446744073709551616 (n + 1) (U + 18446744073709551616 ^ (n + 1) * (if U < t * valB 18446744073709551616 dl then 1 else 0) - t * valB 18446744073709551616 dl) ++ S))).map (ie .u64)))] := by
 refine fn1N_of pl147 (by kernel_rfl) Tryz.call147 Tryz.func147 rfl (by kernel_rfl) rfl [.tmp 6] (by kernel_rfl) fun Q hQ => ?_
 have hTl : (fw 18446744073709551616 (n + 1) U ++ S).length = n + 1 + S.length := by rw [List.length_append, fw_len]
 have hTv := fwT_val (S := S) (by decide) hU
 have hTw := fwT_lt (U := U) (k := n + 1) (by decide) hS
 have hfull := fun N => prt_full (P := P) (N := N) (S := S) (B := 18446744073709551616) (k := n + 1) (U := U)
 generalize hT : fw 18446744073709551616 (n + 1) U ++ S = T at *
 have hnd := nl_len dl
 have hpT := nl_len (P ++ T)
 rw [List.length_append] at hpT
 refine runW ?_
 refine LoopV_of (X := List Nat × Nat × Nat) (st := fun z => ([(0, .sl 0 1 P.length (n + 1)), (1, .row 1 ((nl dl).map (ie .u64))), (2, .lit (.int .u64 (t : Int))), (7, .lit (.int .u64 (z.2.1 : Int))), (8, .lit (.int .u64 (z.2.2 : Int))), (15, .row 1 ((nl dl).map (ie .u64))), (16, .lit (.int .i64 (n : Int))), (17, .lit (.int .i64 (z.1.length : Int)))], [some (.row 1 ((nl (prt P z.1 T)).map (ie .u64)))]))
  (inv := fun z => z.1.length ≤ n ∧ (∀ d ∈ z.1, d < 18446744073709551616) ∧ z.2.1 < 18446744073709551616 ∧ z.2.2 ≤ 1 ∧ valB 18446744073709551616 z.1 + t * valB 18446744073709551616 (dl.take z.1.length) = valB 18446744073709551616 (T.take z.1.length) + 18446744073709551616 ^ z.1.length * z.2.2 + 18446744073709551616 ^ z.1.length * z.2.1)
  (m := fun z => n - z.1.length) ([], 0, 0) [some 0] rfl (by simp only [prt_nil]; (simp (disch := (first | omega | (simp only [lnA, List.length_map, List.length_range, true_and, and_true]; (try omega); done) | fail)) only [go_sem, Int.reduceEq, Int.reduceToNat, Nat.reduceAdd, Nat.reduceMul, Nat.reduceEqDiff, ↓reduceIte, true_and, and_true, and_self, List.drop_zero, List.take_length, Nat.le_refl, V.lit.injEq, Value.int.injEq, Value.bool.injEq]; try (first | omega | (simp; done) | (simp; omega)))) (by simp (disch := (first | omega | (simp only [lnA, List.length_map, List.length_range, true_and, and_true]; (try omega); done) | fail)) only [go_sem, Int.reduceEq, Int.reduceToNat, Nat.reduceAdd, Nat.reduceMul, Nat.reduceEqDiff, ↓reduceIte, true_and, and_true, and_self, List.drop_zero, List.take_length, Nat.le_refl, V.lit.injEq, Value.int.injEq, Value.bool.injEq]; try (first | omega | (simp; done) | (simp; omega))) ⟨by simp, by simp, by simp, by simp, by simp [valB]⟩ ?_
 rintro ⟨N, c, bo⟩ ⟨hi, hN, hc, hb, hv⟩
 simp only at hi hN hc hb hv ⊢
 have hprl := prt_len (P := P) (N := N) (T := T) (by omega)
 have hnp := nl_len (prt P N T)
 have hgu := fun (i : Nat) (h : N.length ≤ i) (h2 : i < T.length) => (nl_get (prt P N T) (P.length + i)).trans (by rw [prt_get h h2])
 have hset : ∀ x : Nat, (nl (prt P N T)).set (P.length + N.length) (x : Int) = nl (prt P (N ++ [x]) T) := fun x => by rw [nl_set, prt_set (by omega)]
 have hxu := getD_ltB (by decide) hTw N.length
 have htu := valB_take' (B := 18446744073709551616) T N.length
 by_cases h1 : N.length < n
 ·
  have hgd := nl_get dl N.length
  have hxd := getD_ltB (by decide) hdl N.length
  have htd := valB_take' (B := 18446744073709551616) dl N.length
  have hgu := hgu N.length (Nat.le_refl _) (by omega)
  generalize T.getD N.length 0 = u at *
  generalize dl.getD N.length 0 = y at *
  have hyt : y * t ≤ 18446744073709551615 * 18446744073709551615 := Nat.mul_le_mul (by omega) (by omega)
  have hm64 := mul64_fn (x := y) (y := t) hxd ht
  have hpp : t * valB 18446744073709551616 (dl.take (N.length + 1)) = t * valB 18446744073709551616 (dl.take N.length) + 18446744073709551616 ^ N.length * (y * t) := by
   rw [htd, Nat.mul_add, Nat.mul_left_comm, Nat.mul_comm t y]
  generalize y * t = p at *
  have e0 : 18446744073709551615 * 18446744073709551615 = 340282366920938463426481119284349108225 := by decide
  rw [e0] at hyt
  have hlo : (p % 18446744073709551616 + c + 0) % 18446744073709551616 < 18446744073709551616 := Nat.mod_lt _ (by decide)
  have hcc : p / 18446744073709551616 + (p % 18446744073709551616 + c + 0) / 18446744073709551616 < 18446744073709551616 := by omega
  have hsum : (p / 18446744073709551616 + (p % 18446744073709551616 + c + 0) / 18446744073709551616) * 18446744073709551616 + (p % 18446744073709551616 + c + 0) % 18446744073709551616 = p + c := by omega
  generalize hlo1 : (p % 18446744073709551616 + c + 0) % 18446744073709551616 = lo at *
  generalize hc1 : (p % 18446744073709551616 + c + 0) / 18446744073709551616 = c1 at *
  obtain ⟨q1, q2, q3⟩ := sub_digit hxu hlo hb
  have hq1 : ((p / 18446744073709551616 : Nat) : Int) + (c1 : Int) = ((p / 18446744073709551616 + c1 : Nat) : Int) := by omega
  generalize hnw : (u + 18446744073709551616 - lo - bo) % 18446744073709551616 = nw at *
  generalize hb' : (if u < lo + bo then 1 else 0) = b' at *
  generalize hc' : p / 18446744073709551616 + c1 = c' at *
  have hinv := take_step (Bi := 18446744073709551616 ^ N.length) (B := 18446744073709551616) (nw := nw) (p := p) (tt := u) (bo' := b') (c' := c') (by omega) hv hpp
  rw [← Nat.pow_succ, ← htu, ← valB_snoc] at hinv
  have hls : (N ++ [nw]).length = N.length + 1 := by simp
  simp (maxSteps := 1000000) (disch := (first | omega | (simp only [lnA, List.length_map, List.length_range, true_and, and_true]; (try omega); done) | fail)) only [go_sem, hgd, Int.reduceEq, Int.reduceToNat, Nat.reduceAdd, Nat.reduceMul, Nat.reduceEqDiff, ↓reduceIte]
  refine callV0 (hm64) rfl rfl ?_
  refine runW ?_
  refine call_add64 (c := 0) Tryz.func83 (by kernel_rfl) (by kernel_rfl) (by kernel_rfl) (by kernel_rfl) (by omega) ?_
  rw [hlo1, hc1]
  simp (maxSteps := 1000000) (disch := (first | omega | (simp only [lnA, List.length_map, List.length_range, true_and, and_true]; (try omega); done) | fail)) only [go_sem, hq1, hgu, Int.reduceEq, Int.reduceToNat, Nat.reduceAdd, Nat.reduceMul, Nat.reduceEqDiff, ↓reduceIte]
  refine call_sub64 Tryz.func111 (by kernel_rfl) (by kernel_rfl) (by kernel_rfl) (by kernel_rfl) (by omega) ?_
  rw [hnw, hb']
  simp (maxSteps := 1000000) (disch := (first | omega | (simp only [lnA, List.length_map, List.length_range, true_and, and_true]; (try omega); done) | fail)) only [go_sem, hset, Int.reduceEq, Int.reduceToNat, Nat.reduceAdd, Nat.reduceMul, Nat.reduceEqDiff, ↓reduceIte]
  refine NextV_of (N ++ [nw], c', b') [some 0] rfl (by rw [hls]; (simp (disch := (first | omega | (simp only [lnA, List.length_map, List.length_range, true_and, and_true]; (try omega); done) | fail)) only [go_sem, Int.reduceEq, Int.reduceToNat, Nat.reduceAdd, Nat.reduceMul, Nat.reduceEqDiff, ↓reduceIte, true_and, and_true, and_self, List.drop_zero, List.take_length, Nat.le_refl, V.lit.injEq, Value.int.injEq, Value.bool.injEq]; try (first | omega | (simp; done) | (simp; omega)))) (by (simp (disch := (first | omega | (simp only [lnA, List.length_map, List.length_range, true_and, and_true]; (try omega); done) | fail)) only [go_sem, Int.reduceEq, Int.reduceToNat, Nat.reduceAdd, Nat.reduceMul, Nat.reduceEqDiff, ↓reduceIte, true_and, and_true, and_self, List.drop_zero, List.take_length, Nat.le_refl, V.lit.injEq, Value.int.injEq, Value.bool.injEq]; try (first | omega | (simp; done) | (simp; omega)))) ⟨by simp only; omega, snocB hN q3, hcc, q2, by simp only [hls]; rw [hinv, Nat.pow_succ]⟩ (by simp only; omega)
 ·
  obtain rfl : n = N.length := by omega
  have hgu := hgu N.length (Nat.le_refl _) (by omega)
  generalize T.getD N.length 0 = u at *
  obtain ⟨q1, q2, q3⟩ := sub_digit hxu hc hb
  have hnd2 : (nl dl).length = N.length := by omega
  have hdf : dl.take N.length = dl := List.take_of_length_le (by omega)
  rw [hdf] at hv
  generalize hnw : (u + 18446744073709551616 - c - bo) % 18446744073709551616 = nw at *
  have hb0 : ∀ b', (if u < c + bo then 1 else 0) = b' → valB 18446744073709551616 (N ++ [nw]) + t * valB 18446744073709551616 dl = U + 18446744073709551616 ^ (N.length + 1) * b' := fun b' e => by
   rw [e] at q1
   have hinv := take_step (Bi := 18446744073709551616 ^ N.length) (B := 18446744073709551616) (nw := nw) (p := 0) (tt := u) (bo' := b') (c' := 0) (A2 := t * valB 18446744073709551616 dl) (by omega) hv (by omega)
   rw [← Nat.pow_succ, ← htu, ← valB_snoc, hTv, Nat.mul_zero, Nat.add_zero] at hinv
   exact hinv
  have hNv := valB_lt (B := 18446744073709551616) (l := N ++ [nw]) (snocB hN q3)
  rw [List.length_append, List.length_singleton] at hNv
  have hif : (if u < c + bo then 1 else 0) = (if U < t * valB 18446744073709551616 dl then 1 else 0 : Nat) := by
   by_cases hc1 : u < c + bo
   ·
    have e := hb0 1 (if_pos hc1)
    rw [if_pos hc1, if_pos (by omega)]
   ·
    have e := hb0 0 (if_neg hc1)
    rw [if_neg hc1, if_neg (by omega)]
  have e := hb0 _ hif
  have hval : valB 18446744073709551616 (N ++ [nw]) = U + 18446744073709551616 ^ (N.length + 1) * (if U < t * valB 18446744073709551616 dl then 1 else 0) - t * valB 18446744073709551616 dl := by omega
  have hfw := fw_eq (B := 18446744073709551616) (l := N ++ [nw]) (k := N.length + 1) (snocB hN q3) (by simp) hval
  have hend := hfull (N ++ [nw]) (by simp)
  rw [hfw] at hQ
  clear hb0 hval hfw e
  generalize hbb : (if U < t * valB 18446744073709551616 dl then 1 else 0 : Nat) = bb at *
  have hb1 : bb ≤ 1 := by rw [← hbb]; split <;> omega
  simp (maxSteps := 1000000) (disch := (first | omega | (simp only [lnA, List.length_map, List.length_range, true_and, and_true]; (try omega); done) | fail)) only [go_sem, hnd2, hgu, Int.reduceEq, Int.reduceToNat, Nat.reduceAdd, Nat.reduceMul, Nat.reduceEqDiff, ↓reduceIte]
  refine call_sub64 Tryz.func111 (by kernel_rfl) (by kernel_rfl) (by kernel_rfl) (by kernel_rfl) (by omega) ?_
  rw [hnw, hif]
  simp (maxSteps := 1000000) (disch := (first | omega | (simp only [lnA, List.length_map, List.length_range, true_and, and_true]; (try omega); done) | fail)) only [go_sem, hset, hend, Int.reduceEq, Int.reduceToNat, Nat.reduceAdd, Nat.reduceMul, Nat.reduceEqDiff, ↓reduceIte]
  exact endW [some 0] hQ
theorem split_div {B v x y : Nat} (hy : 0 < y) : (x + B * v) / y = (v % y * B + x) / y + B * (v / y) ∧ (x + B * v) % y = (v % y * B + x) % y := by
 have h := Nat.div_add_mod v y
 generalize v % y = r at *
 generalize v / y = q at *
 have e : x + B * v = y * (B * q) + (r * B + x) := by
  rw [← h, Nat.mul_add, Nat.mul_left_comm, Nat.mul_comm B r]; omega
 rw [e, Nat.mul_add_div hy, Nat.mul_add_mod, Nat.add_comm]
 exact ⟨rfl, rfl⟩
set_option maxHeartbeats 1000000 in
theorem split_fn {W : List Nat} {y : Nat} (hW : ∀ d ∈ W, d < 18446744073709551616) (hl : W.length ≤ 2000000) (hy0 : 0 < y) (hy : y < 18446744073709551616) : Fn1 Tryz.prog 92 [.row 1 ((nl W).map (ie .u64)), .lit (.int .u64 (y : Int))] []
  (.tup [.sl 0 1 0 W.length, .lit (.int .u64 ((valB 18446744073709551616 W % y : Nat) : Int))]) [some (.row 1 ((nl (fw 18446744073709551616 W.length (valB 18446744073709551616 W / y))).map (ie .u64)))] := by
 refine fn1N_of pl92 (by kernel_rfl) Tryz.call92 Tryz.func92 rfl (by kernel_rfl) rfl [.tmp 4, .tmp 5] (by kernel_rfl) fun Q hQ => ?_
 have hnW := nl_len W
 refine runW ?_
 refine LoopV_of (X := Nat × List Nat) (st := fun z => ([(0, .row 1 ((nl W).map (ie .u64))), (1, .lit (.int .u64 (y : Int))), (6, .sl 0 1 0 W.length), (7, .lit (.int .u64 ((valB 18446744073709551616 (W.drop z.1) % y : Nat) : Int))), (8, .lit (.int .i64 ((z.1 : Int) - 1)))], [some (.row 1 ((nl z.2).map (ie .u64)))]))
  (inv := fun z => z.1 ≤ W.length ∧ z.2.length = W.length ∧ (∀ d ∈ z.2, d < 18446744073709551616) ∧ valB 18446744073709551616 (z.2.drop z.1) = valB 18446744073709551616 (W.drop z.1) / y)
  (m := fun z => z.1) (W.length, List.replicate W.length 0) [some 0] rfl (by simp only [← nl_rep]; (simp (disch := (first | omega | (simp only [lnA, List.length_map, List.length_range, true_and, and_true]; (try omega); done) | fail)) only [go_sem, Int.reduceEq, Int.reduceToNat, Nat.reduceAdd, Nat.reduceMul, Nat.reduceEqDiff, ↓reduceIte, true_and, and_true, and_self, List.drop_zero, List.take_length, Nat.le_refl, V.lit.injEq, Value.int.injEq, Value.bool.injEq]; try (first | omega | (simp; done) | (simp; omega)))) (by simp only [List.drop_length, show valB 18446744073709551616 [] % y = 0 from Nat.zero_mod y]; (simp (disch := (first | omega | (simp only [lnA, List.length_map, List.length_range, true_and, and_true]; (try omega); done) | fail)) only [go_sem, Int.reduceEq, Int.reduceToNat, Nat.reduceAdd, Nat.reduceMul, Nat.reduceEqDiff, ↓reduceIte, true_and, and_true, and_self, List.drop_zero, List.take_length, Nat.le_refl, V.lit.injEq, Value.int.injEq, Value.bool.injEq]; try (first | omega | (simp; done) | (simp; omega))))
  ⟨Nat.le_refl _, by simp, fun d hd => by rw [List.eq_of_mem_replicate hd]; decide, by simp [valB]⟩ ?_
 rintro ⟨k, O⟩ ⟨hk, hO, hOl, hv⟩
 simp only at hk hO hOl hv ⊢
 have hnO := nl_len O
 by_cases h : 0 < k
 ·
  obtain ⟨i, rfl⟩ : ∃ i, k = i + 1 := ⟨k - 1, by omega⟩
  have hg := nl_get W i
  have hx := getD_ltB (by decide) hW i
  have hdv := drop_val (l := W) (i := i) (B := 18446744073709551616) (by omega)
  have hki : (((i + 1 : Nat) : Int) - 1).toNat = i := by omega
  generalize W.getD i 0 = x at *
  obtain ⟨s1, s2⟩ := split_div (B := 18446744073709551616) (v := valB 18446744073709551616 (W.drop (i + 1))) (x := x) hy0
  rw [← hdv] at s1 s2
  have hr := Nat.mod_lt (valB 18446744073709551616 (W.drop (i + 1))) hy0
  generalize valB 18446744073709551616 (W.drop (i + 1)) % y = r at *
  have hd := div64_fn (hi := r) (lo := x) (y := y) hr hx hy
  have hq : (r * 18446744073709551616 + x) / y < 18446744073709551616 := by
   rw [Nat.div_lt_iff_lt_mul hy0]; omega
  rw [← s2] at hd
  generalize (r * 18446744073709551616 + x) / y = q at *
  have hset := nl_set O i q
  simp (maxSteps := 1000000) (disch := (first | omega | (simp only [lnA, List.length_map, List.length_range, true_and, and_true]; (try omega); done) | fail)) only [go_sem, hki, hg, Int.reduceEq, Int.reduceToNat, Nat.reduceAdd, Nat.reduceMul, Nat.reduceEqDiff, ↓reduceIte]
  refine callV0 (hd) rfl rfl ?_
  simp (maxSteps := 1000000) (disch := (first | omega | (simp only [lnA, List.length_map, List.length_range, true_and, and_true]; (try omega); done) | fail)) only [go_sem, hki, hset, Int.reduceEq, Int.reduceToNat, Nat.reduceAdd, Nat.reduceMul, Nat.reduceEqDiff, ↓reduceIte]
  refine nextW (i, O.set i q) [some 0] ⟨by simp only; omega, by simpa using hO, setB hOl hq, ?_⟩ (by simp only; omega)
  simp only
  rw [set_drop (by omega)]
  show q + 18446744073709551616 * valB 18446744073709551616 (O.drop (i + 1)) = _
  rw [hv, s1]
 ·
  obtain rfl : k = 0 := by omega
  rw [List.drop_zero, List.drop_zero] at hv
  rw [List.drop_zero]
  have hf := fw_eq (B := 18446744073709551616) hOl hO hv
  rw [hf] at hQ
  refine runW ?_
  exact endW [some 0] hQ
theorem shr_word {v s i : Nat} (hs : s ≤ 63) : v / 2 ^ s / 18446744073709551616 ^ i % 18446744073709551616 = v / 18446744073709551616 ^ i % 18446744073709551616 / 2 ^ s + v / 18446744073709551616 ^ (i + 1) % 18446744073709551616 * 2 ^ (64 - s) % 18446744073709551616 := by
 have e : (18446744073709551616 : Nat) = 2 ^ s * 2 ^ (64 - s) := by rw [← Nat.pow_add, show s + (64 - s) = 64 by omega]
 have hp : 0 < 2 ^ s := Nat.pow_pos (by decide)
 have hq : 0 < 2 ^ (64 - s) := Nat.pow_pos (by decide)
 rw [Nat.div_div_eq_div_mul, Nat.mul_comm, ← Nat.div_div_eq_div_mul, Nat.pow_succ, ← Nat.div_div_eq_div_mul]
 generalize v / 18446744073709551616 ^ i = x
 have h1 : x / 2 ^ s % 18446744073709551616 = x % (2 ^ s * 18446744073709551616) / 2 ^ s := (Nat.mod_mul_right_div_self _ _ _).symm
 have h2 : x / 18446744073709551616 % 18446744073709551616 * 2 ^ (64 - s) % 18446744073709551616 = x / 18446744073709551616 % 2 ^ s * 2 ^ (64 - s) := by
  have e3 : ∀ z : Nat, z % 18446744073709551616 * 2 ^ (64 - s) % 18446744073709551616 = z % 2 ^ s * 2 ^ (64 - s) := fun z => by
   rw [e, Nat.mul_mod_mul_right, Nat.mod_mul_right_mod]
  exact e3 _
 have h3 : x % (2 ^ s * 18446744073709551616) = x % 18446744073709551616 + 18446744073709551616 * (x / 18446744073709551616 % 2 ^ s) := by
  rw [Nat.mul_comm, Nat.mod_mul]
 rw [h1, h2, h3]
 have h4 : 18446744073709551616 * (x / 18446744073709551616 % 2 ^ s) = 2 ^ s * (x / 18446744073709551616 % 2 ^ s * 2 ^ (64 - s)) := by
  generalize x / 18446744073709551616 % 2 ^ s = z
  conv => lhs; rw [e]
  rw [Nat.mul_assoc, Nat.mul_comm (2 ^ (64 - s))]
 rw [h4, Nat.add_mul_div_left _ _ hp]
end Go.Proofs.YtdohmppildfjhaaGreatDoor
