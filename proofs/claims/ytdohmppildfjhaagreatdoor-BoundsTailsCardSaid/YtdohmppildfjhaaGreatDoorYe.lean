import Derived.Test.YtdohmppildfjhaaGreatDoorNe
namespace Go.Proofs.YtdohmppildfjhaaGreatDoor
open Go.Eng Go.Vx
set_option linter.unusedSimpArgs false
set_option linter.unusedVariables false
set_option maxRecDepth 100000
theorem small_dec {n : Nat} (h0 : 10 ≤ n) (h : n < 100) : decS n = [UInt8.ofNat (48 + n / 10), UInt8.ofNat (48 + n % 10)] := by
 have := decS_split (n := n) (j := 1) (by simp; omega)
 rw [this, decS_small (by simp; omega)]
 simp [decL, decB]
theorem bd_pair {s : List UInt8} {n : Nat} {G : List UInt8 → Prop} (hl : s.length = 200) (hn : n < 100) (hs : ∀ z : Fin 100, (s.take (2 * z.val + 2)).drop (2 * z.val) = [UInt8.ofNat (48 + z.val / 10), UInt8.ofNat (48 + z.val % 10)])
  (hG : G [UInt8.ofNat (48 + n / 10), UInt8.ofNat (48 + n % 10)]) : bdK (.lit (.int .i64 ((n : Int) * 2 + 2))) s.length fun h => bdK (.lit (.int .i64 ((n : Int) * 2))) h fun x => G ((s.take h).drop x) := by
 have e1 : ((n : Int) * 2 + 2).toNat = 2 * n + 2 := by omega
 have e2 : ((n : Int) * 2).toNat = 2 * n := by omega
 simp only [bdK]
 rw [if_pos (by omega), if_pos (by omega), e1, e2]
 have := hs ⟨n, hn⟩
 simp only at this
 rw [this]
 exact hG
theorem small_fn10 {n : Nat} (h : n < 100) : Fn1 Tryz.prog 134 [.lit (.int .i64 (n : Int))] [] (.lit (.string (bs (decS n)))) [] := by
 refine fn1N_of pl134 (by kernel_rfl) Tryz.call134 Tryz.func134 rfl (by kernel_rfl) rfl [.tmp 2] (by kernel_rfl) fun Q hQ => ?_
 by_cases h1 : n < 10
 ·
  rw [decS_small h1] at hQ
  have hend : EndV 0 Q (.lit (.string (bs [UInt8.ofNat (48 + n)]))) [] := by exact endW [] hQ
  refine runW ?_
  refine cast (congrArg (fun l => EndV 0 Q (.lit (.string (bs l))) []) ?_) hend
  clear hend hQ h
  revert n
  decide +kernel
 ·
  rw [small_dec (by omega) h] at hQ
  have hend : EndV 0 Q (.lit (.string (bs [UInt8.ofNat (48 + n / 10), UInt8.ofNat (48 + n % 10)]))) [] := by exact endW [] hQ
  refine runW ?_
  exact bd_pair (G := fun l => EndV 0 Q (.lit (.string (bs l))) []) (by kernel_rfl) h (of_decide_eq_true (by kernel_rfl)) hend
def ch (d : Nat) : Int := ((48 + d : Nat) : Int)
theorem pair_lo {s : List UInt8} {y : Int} {d : Nat} {F : Bool → V → Prop} (h : ∀ z : Fin 100, (s.getD (2 * z.val) 0).toNat = 48 + z.val / 10 ∧ (s.getD (2 * z.val + 1) 0).toNat = 48 + z.val % 10) (hs : s.length = 200) (hy : 0 ≤ y ∧ y < 100 ∧ y % 10 = d) :
  ixvV Tryz.prog 9 (.lit (.string (bs s))) (.lit (.int .u32 (y * 2 + 1))) F = F true (.lit (.int .u8 (ch d))) := by
 obtain ⟨n, rfl⟩ : ∃ n : Nat, y = (n : Int) := ⟨y.toNat, by omega⟩
 rw [visb_9 (by omega), show ((n : Int) * 2 + 1).toNat = 2 * n + 1 by omega, (h ⟨n, by omega⟩).2, show n % 10 = d by omega]
 rfl
theorem pair_hi {s : List UInt8} {y : Int} {d : Nat} {F : Bool → V → Prop} (h : ∀ z : Fin 100, (s.getD (2 * z.val) 0).toNat = 48 + z.val / 10 ∧ (s.getD (2 * z.val + 1) 0).toNat = 48 + z.val % 10) (hs : s.length = 200) (hy : 0 ≤ y ∧ y < 100 ∧ y / 10 = d) :
  ixvV Tryz.prog 9 (.lit (.string (bs s))) (.lit (.int .u32 (y * 2))) F = F true (.lit (.int .u8 (ch d))) := by
 obtain ⟨n, rfl⟩ : ∃ n : Nat, y = (n : Int) := ⟨y.toNat, by omega⟩
 rw [visb_9 (by omega), show ((n : Int) * 2).toNat = 2 * n by omega, (h ⟨n, by omega⟩).1, show n / 10 = d by omega]
 rfl
theorem set_back {α : Type} {L T : List α} {j k : Nat} {x : α} (h : j + 1 = k ∧ k ≤ L.length) : (L.take k ++ T).set j x = L.take j ++ (x :: T) := by
 obtain ⟨rfl, h⟩ := h
 have e : (L.take (j + 1)).length = j + 1 := by rw [List.length_take]; omega
 rw [List.set_append_left (h := by omega), List.take_succ_eq_append_getElem (by omega), List.set_append_right (h := by rw [List.length_take]; omega), List.length_take, Nat.min_eq_left (by omega), Nat.sub_self, List.append_assoc]
 rfl
theorem decL8 (k v : Nat) : decL (k + 8) v = decL k (v / 100000000) ++ [v / 10000000 % 10, v / 1000000 % 10, v / 100000 % 10, v / 10000 % 10, v / 1000 % 10, v / 100 % 10, v / 10 % 10, v % 10] := by
 rw [decL_add 8 k v]
 simp [decL, Nat.div_div_eq_div_mul]
set_option maxHeartbeats 4000000 in
theorem fmt10_fn {L : List Int} {n u : Nat} (hn : n ≤ L.length) (hL : L.length ≤ 1000) (hu : u < 10 ^ n) (hu2 : u < 18446744073709551616) : Fn1 Tryz.prog 136 [.sl 0 1 0 n, .lit (.int .u64 (u : Int))] [some (.row 1 (L.map (ie .u8)))] (.tup [])
  [some (.row 1 (((decL n u).map ch ++ L.drop n).map (ie .u8)))] := by
 refine fn1N_of pl136 (by kernel_rfl) Tryz.call136 Tryz.func136 rfl (by kernel_rfl) rfl [] (by kernel_rfl) fun Q hQ => ?_
 refine runW ?_
 refine LoopV_of (X := Nat × Nat × List Int) (st := fun z => ([(0, .sl 0 1 0 n), (1, .lit (.int .u64 (z.2.1 : Int))), (4, .lit (.int .i64 (z.1 : Int)))], [some (.row 1 ((L.take z.1 ++ z.2.2).map (ie .u8)))]))
  (inv := fun z => z.1 ≤ n ∧ z.2.1 < 10 ^ z.1 ∧ z.2.1 < 18446744073709551616 ∧ n ≤ (L.take z.1 ++ z.2.2).length ∧ (decL z.1 z.2.1).map ch ++ z.2.2 = (decL n u).map ch ++ L.drop n) (m := fun z => z.1) (n, u, L.drop n) [some 0] rfl (by simp only [List.take_append_drop]; (simp (disch := (first | omega | (simp only [lnA, List.length_map, List.length_range, true_and, and_true]; (try omega); done) | fail)) only [go_sem, Int.reduceEq, Int.reduceToNat, Nat.reduceAdd, Nat.reduceMul, Nat.reduceEqDiff, ↓reduceIte, true_and, and_true, and_self, List.drop_zero, List.take_length, Nat.le_refl, V.lit.injEq, Value.int.injEq, Value.bool.injEq]; try (first | omega | (simp; done) | (simp; omega)))) (by simp (disch := (first | omega | (simp only [lnA, List.length_map, List.length_range, true_and, and_true]; (try omega); done) | fail)) only [go_sem, Int.reduceEq, Int.reduceToNat, Nat.reduceAdd, Nat.reduceMul, Nat.reduceEqDiff, ↓reduceIte, true_and, and_true, and_self, List.drop_zero, List.take_length, Nat.le_refl, V.lit.injEq, Value.int.injEq, Value.bool.injEq]; try (first | omega | (simp; done) | (simp; omega))) ⟨Nat.le_refl _, hu, hu2, by simp only [List.take_append_drop]; exact hn, rfl⟩ ?_
 rintro ⟨m, v, T⟩ ⟨hm, hv1, hv2, hlen, hv3⟩
 simp only at hm hv1 hv2 hv3 hlen ⊢
 by_cases h8 : 8 ≤ m
 ·
  obtain ⟨k, rfl⟩ : ∃ k, m = k + 8 := ⟨m - 8, by omega⟩
  have j1 : (((k + 8 : Nat) : Int) - 1).toNat = k + 7 := by omega
  have j2 : (((k + 8 : Nat) : Int) - 2).toNat = k + 6 := by omega
  have j3 : (((k + 8 : Nat) : Int) - 3).toNat = k + 5 := by omega
  have j4 : (((k + 8 : Nat) : Int) - 4).toNat = k + 4 := by omega
  have j5 : (((k + 8 : Nat) : Int) - 5).toNat = k + 3 := by omega
  have j6 : (((k + 8 : Nat) : Int) - 6).toNat = k + 2 := by omega
  have j7 : (((k + 8 : Nat) : Int) - 7).toNat = k + 1 := by omega
  have j8 : (((k + 8 : Nat) : Int) - 8).toNat = k := by omega
  have hlT := hlen
  rw [List.length_append, List.length_take] at hlT
  refine runW ?_
  rw [pair_lo (d := v % 10) (of_decide_eq_true (by kernel_rfl)) (by kernel_rfl) (by omega)]
  simp (maxSteps := 1000000) (disch := (first | omega | (simp only [lnA, List.length_map, List.length_range, true_and, and_true]; (try omega); done) | fail)) only [go_sem, j1, j2, j3, j4, j5, j6, j7, j8, set_back, Int.reduceEq, Int.reduceToNat, Nat.reduceAdd, Nat.reduceMul, Nat.reduceEqDiff, ↓reduceIte]
  rw [pair_hi (d := v / 10 % 10) (of_decide_eq_true (by kernel_rfl)) (by kernel_rfl) (by omega)]
  simp (maxSteps := 1000000) (disch := (first | omega | (simp only [lnA, List.length_map, List.length_range, true_and, and_true]; (try omega); done) | fail)) only [go_sem, j1, j2, j3, j4, j5, j6, j7, j8, set_back, Int.reduceEq, Int.reduceToNat, Nat.reduceAdd, Nat.reduceMul, Nat.reduceEqDiff, ↓reduceIte]
  rw [pair_lo (d := v / 100 % 10) (of_decide_eq_true (by kernel_rfl)) (by kernel_rfl) (by omega)]
  simp (maxSteps := 1000000) (disch := (first | omega | (simp only [lnA, List.length_map, List.length_range, true_and, and_true]; (try omega); done) | fail)) only [go_sem, j1, j2, j3, j4, j5, j6, j7, j8, set_back, Int.reduceEq, Int.reduceToNat, Nat.reduceAdd, Nat.reduceMul, Nat.reduceEqDiff, ↓reduceIte]
  rw [pair_hi (d := v / 1000 % 10) (of_decide_eq_true (by kernel_rfl)) (by kernel_rfl) (by omega)]
  simp (maxSteps := 1000000) (disch := (first | omega | (simp only [lnA, List.length_map, List.length_range, true_and, and_true]; (try omega); done) | fail)) only [go_sem, j1, j2, j3, j4, j5, j6, j7, j8, set_back, Int.reduceEq, Int.reduceToNat, Nat.reduceAdd, Nat.reduceMul, Nat.reduceEqDiff, ↓reduceIte]
  rw [pair_lo (d := v / 10000 % 10) (of_decide_eq_true (by kernel_rfl)) (by kernel_rfl) (by omega)]
  simp (maxSteps := 1000000) (disch := (first | omega | (simp only [lnA, List.length_map, List.length_range, true_and, and_true]; (try omega); done) | fail)) only [go_sem, j1, j2, j3, j4, j5, j6, j7, j8, set_back, Int.reduceEq, Int.reduceToNat, Nat.reduceAdd, Nat.reduceMul, Nat.reduceEqDiff, ↓reduceIte]
  rw [pair_hi (d := v / 100000 % 10) (of_decide_eq_true (by kernel_rfl)) (by kernel_rfl) (by omega)]
  simp (maxSteps := 1000000) (disch := (first | omega | (simp only [lnA, List.length_map, List.length_range, true_and, and_true]; (try omega); done) | fail)) only [go_sem, j1, j2, j3, j4, j5, j6, j7, j8, set_back, Int.reduceEq, Int.reduceToNat, Nat.reduceAdd, Nat.reduceMul, Nat.reduceEqDiff, ↓reduceIte]
  rw [pair_lo (d := v / 1000000 % 10) (of_decide_eq_true (by kernel_rfl)) (by kernel_rfl) (by omega)]
  simp (maxSteps := 1000000) (disch := (first | omega | (simp only [lnA, List.length_map, List.length_range, true_and, and_true]; (try omega); done) | fail)) only [go_sem, j1, j2, j3, j4, j5, j6, j7, j8, set_back, Int.reduceEq, Int.reduceToNat, Nat.reduceAdd, Nat.reduceMul, Nat.reduceEqDiff, ↓reduceIte]
  rw [pair_hi (d := v / 10000000 % 10) (of_decide_eq_true (by kernel_rfl)) (by kernel_rfl) (by omega)]
  simp (maxSteps := 1000000) (disch := (first | omega | (simp only [lnA, List.length_map, List.length_range, true_and, and_true]; (try omega); done) | fail)) only [go_sem, j1, j2, j3, j4, j5, j6, j7, j8, set_back, Int.reduceEq, Int.reduceToNat, Nat.reduceAdd, Nat.reduceMul, Nat.reduceEqDiff, ↓reduceIte]
  have hv1' : v / 100000000 < 10 ^ k := by
   rw [Nat.div_lt_iff_lt_mul (by decide), show (100000000 : Nat) = 10 ^ 8 from rfl, ← Nat.pow_add]; exact hv1
  refine nextW (k, v / 100000000, [v / 10000000 % 10, v / 1000000 % 10, v / 100000 % 10, v / 10000 % 10, v / 1000 % 10, v / 100 % 10, v / 10 % 10, v % 10].map ch ++ T) [some 0] ⟨by simp only; omega, hv1', by simp only; omega, ?_, ?_⟩ (by simp only; omega)
  ·
   simp only [List.length_append, List.length_take, List.length_map, List.length_cons, List.length_nil]; omega
  ·
   simp only
   rw [← hv3, decL8, List.map_append, List.append_assoc]
 ·
  rw [← hv3] at hQ
  have hm8 : m = 0 ∨ m = 1 ∨ m = 2 ∨ m = 3 ∨ m = 4 ∨ m = 5 ∨ m = 6 ∨ m = 7 := by omega
  have hlT := hlen
  rw [List.length_append, List.length_take] at hlT
  have hw : v < 10000000 → IntKind.u32.wrap (v : Int) = (v : Int) := fun h => by simp [IntKind.wrap, IntKind.bits, IntKind.signed]; omega
  rcases hm8 with rfl | rfl | rfl | rfl | rfl | rfl | rfl | rfl
  ·
   have hz : ((0 : Nat) : Int) = 0 := rfl
   have hvm : v < 1 := by simpa using hv1
   have hw := hw (by omega)
   rw [show decL 0 v = [] by simp [decL, Nat.div_div_eq_div_mul]] at hQ
   simp (maxSteps := 1000000) (disch := (first | omega | (simp only [lnA, List.length_map, List.length_range, true_and, and_true]; (try omega); done) | fail)) only [go_sem, hz, hw, set_back, Int.reduceSub, Int.reduceAdd, List.take_zero, List.nil_append, Int.reduceEq, Int.reduceToNat, Nat.reduceAdd, Nat.reduceMul, Nat.reduceEqDiff, ↓reduceIte]
   exact endW [some 0] hQ
  ·
   have hz : ((1 : Nat) : Int) = 1 := rfl
   have hvm : v < 10 := by simpa using hv1
   have hw := hw (by omega)
   rw [show decL 1 v = [v % 10] by simp [decL, Nat.div_div_eq_div_mul]] at hQ
   have hl : 48 + (v : Int) = ch (v % 10) := by unfold ch; omega
   simp (maxSteps := 1000000) (disch := (first | omega | (simp only [lnA, List.length_map, List.length_range, true_and, and_true]; (try omega); done) | fail)) only [go_sem, hz, hw, set_back, Int.reduceSub, Int.reduceAdd, List.take_zero, List.nil_append, hl, Int.reduceEq, Int.reduceToNat, Nat.reduceAdd, Nat.reduceMul, Nat.reduceEqDiff, ↓reduceIte]
   exact endW [some 0] hQ
  ·
   have hz : ((2 : Nat) : Int) = 2 := rfl
   have hvm : v < 100 := by simpa using hv1
   have hw := hw (by omega)
   rw [show decL 2 v = [v / 10 % 10, v % 10] by simp [decL, Nat.div_div_eq_div_mul]] at hQ
   simp (maxSteps := 1000000) (disch := (first | omega | (simp only [lnA, List.length_map, List.length_range, true_and, and_true]; (try omega); done) | fail)) only [go_sem, hz, hw, set_back, Int.reduceSub, Int.reduceAdd, List.take_zero, List.nil_append, Int.reduceEq, Int.reduceToNat, Nat.reduceAdd, Nat.reduceMul, Nat.reduceEqDiff, ↓reduceIte]
   rw [pair_lo (d := v % 10) (of_decide_eq_true (by kernel_rfl)) (by kernel_rfl) (by omega)]
   simp (maxSteps := 1000000) (disch := (first | omega | (simp only [lnA, List.length_map, List.length_range, true_and, and_true]; (try omega); done) | fail)) only [go_sem, hz, hw, set_back, Int.reduceSub, Int.reduceAdd, List.take_zero, List.nil_append, Int.reduceEq, Int.reduceToNat, Nat.reduceAdd, Nat.reduceMul, Nat.reduceEqDiff, ↓reduceIte]
   rw [pair_hi (d := v / 10 % 10) (of_decide_eq_true (by kernel_rfl)) (by kernel_rfl) (by omega)]
   simp (maxSteps := 1000000) (disch := (first | omega | (simp only [lnA, List.length_map, List.length_range, true_and, and_true]; (try omega); done) | fail)) only [go_sem, hz, hw, set_back, Int.reduceSub, Int.reduceAdd, List.take_zero, List.nil_append, Int.reduceEq, Int.reduceToNat, Nat.reduceAdd, Nat.reduceMul, Nat.reduceEqDiff, ↓reduceIte]
   exact endW [some 0] hQ
  ·
   have hz : ((3 : Nat) : Int) = 3 := rfl
   have hvm : v < 1000 := by simpa using hv1
   have hw := hw (by omega)
   rw [show decL 3 v = [v / 100 % 10, v / 10 % 10, v % 10] by simp [decL, Nat.div_div_eq_div_mul]] at hQ
   have hl : 48 + (v : Int) / 100 = ch (v / 100 % 10) := by unfold ch; omega
   simp (maxSteps := 1000000) (disch := (first | omega | (simp only [lnA, List.length_map, List.length_range, true_and, and_true]; (try omega); done) | fail)) only [go_sem, hz, hw, set_back, Int.reduceSub, Int.reduceAdd, List.take_zero, List.nil_append, hl, Int.reduceEq, Int.reduceToNat, Nat.reduceAdd, Nat.reduceMul, Nat.reduceEqDiff, ↓reduceIte]
   rw [pair_lo (d := v % 10) (of_decide_eq_true (by kernel_rfl)) (by kernel_rfl) (by omega)]
   simp (maxSteps := 1000000) (disch := (first | omega | (simp only [lnA, List.length_map, List.length_range, true_and, and_true]; (try omega); done) | fail)) only [go_sem, hz, hw, set_back, Int.reduceSub, Int.reduceAdd, List.take_zero, List.nil_append, hl, Int.reduceEq, Int.reduceToNat, Nat.reduceAdd, Nat.reduceMul, Nat.reduceEqDiff, ↓reduceIte]
   rw [pair_hi (d := v / 10 % 10) (of_decide_eq_true (by kernel_rfl)) (by kernel_rfl) (by omega)]
   simp (maxSteps := 1000000) (disch := (first | omega | (simp only [lnA, List.length_map, List.length_range, true_and, and_true]; (try omega); done) | fail)) only [go_sem, hz, hw, set_back, Int.reduceSub, Int.reduceAdd, List.take_zero, List.nil_append, hl, Int.reduceEq, Int.reduceToNat, Nat.reduceAdd, Nat.reduceMul, Nat.reduceEqDiff, ↓reduceIte]
   exact endW [some 0] hQ
  ·
   have hz : ((4 : Nat) : Int) = 4 := rfl
   have hvm : v < 10000 := by simpa using hv1
   have hw := hw (by omega)
   rw [show decL 4 v = [v / 1000 % 10, v / 100 % 10, v / 10 % 10, v % 10] by simp [decL, Nat.div_div_eq_div_mul]] at hQ
   simp (maxSteps := 1000000) (disch := (first | omega | (simp only [lnA, List.length_map, List.length_range, true_and, and_true]; (try omega); done) | fail)) only [go_sem, hz, hw, set_back, Int.reduceSub, Int.reduceAdd, List.take_zero, List.nil_append, Int.reduceEq, Int.reduceToNat, Nat.reduceAdd, Nat.reduceMul, Nat.reduceEqDiff, ↓reduceIte]
   rw [pair_lo (d := v % 10) (of_decide_eq_true (by kernel_rfl)) (by kernel_rfl) (by omega)]
   simp (maxSteps := 1000000) (disch := (first | omega | (simp only [lnA, List.length_map, List.length_range, true_and, and_true]; (try omega); done) | fail)) only [go_sem, hz, hw, set_back, Int.reduceSub, Int.reduceAdd, List.take_zero, List.nil_append, Int.reduceEq, Int.reduceToNat, Nat.reduceAdd, Nat.reduceMul, Nat.reduceEqDiff, ↓reduceIte]
   rw [pair_hi (d := v / 10 % 10) (of_decide_eq_true (by kernel_rfl)) (by kernel_rfl) (by omega)]
   simp (maxSteps := 1000000) (disch := (first | omega | (simp only [lnA, List.length_map, List.length_range, true_and, and_true]; (try omega); done) | fail)) only [go_sem, hz, hw, set_back, Int.reduceSub, Int.reduceAdd, List.take_zero, List.nil_append, Int.reduceEq, Int.reduceToNat, Nat.reduceAdd, Nat.reduceMul, Nat.reduceEqDiff, ↓reduceIte]
   rw [pair_lo (d := v / 100 % 10) (of_decide_eq_true (by kernel_rfl)) (by kernel_rfl) (by omega)]
   simp (maxSteps := 1000000) (disch := (first | omega | (simp only [lnA, List.length_map, List.length_range, true_and, and_true]; (try omega); done) | fail)) only [go_sem, hz, hw, set_back, Int.reduceSub, Int.reduceAdd, List.take_zero, List.nil_append, Int.reduceEq, Int.reduceToNat, Nat.reduceAdd, Nat.reduceMul, Nat.reduceEqDiff, ↓reduceIte]
   rw [pair_hi (d := v / 1000 % 10) (of_decide_eq_true (by kernel_rfl)) (by kernel_rfl) (by omega)]
   simp (maxSteps := 1000000) (disch := (first | omega | (simp only [lnA, List.length_map, List.length_range, true_and, and_true]; (try omega); done) | fail)) only [go_sem, hz, hw, set_back, Int.reduceSub, Int.reduceAdd, List.take_zero, List.nil_append, Int.reduceEq, Int.reduceToNat, Nat.reduceAdd, Nat.reduceMul, Nat.reduceEqDiff, ↓reduceIte]
   exact endW [some 0] hQ
  ·
   have hz : ((5 : Nat) : Int) = 5 := rfl
   have hvm : v < 100000 := by simpa using hv1
   have hw := hw (by omega)
   rw [show decL 5 v = [v / 10000 % 10, v / 1000 % 10, v / 100 % 10, v / 10 % 10, v % 10] by simp [decL, Nat.div_div_eq_div_mul]] at hQ
   have hl : 48 + (v : Int) / 10000 = ch (v / 10000 % 10) := by unfold ch; omega
   simp (maxSteps := 1000000) (disch := (first | omega | (simp only [lnA, List.length_map, List.length_range, true_and, and_true]; (try omega); done) | fail)) only [go_sem, hz, hw, set_back, Int.reduceSub, Int.reduceAdd, List.take_zero, List.nil_append, hl, Int.reduceEq, Int.reduceToNat, Nat.reduceAdd, Nat.reduceMul, Nat.reduceEqDiff, ↓reduceIte]
   rw [pair_lo (d := v % 10) (of_decide_eq_true (by kernel_rfl)) (by kernel_rfl) (by omega)]
   simp (maxSteps := 1000000) (disch := (first | omega | (simp only [lnA, List.length_map, List.length_range, true_and, and_true]; (try omega); done) | fail)) only [go_sem, hz, hw, set_back, Int.reduceSub, Int.reduceAdd, List.take_zero, List.nil_append, hl, Int.reduceEq, Int.reduceToNat, Nat.reduceAdd, Nat.reduceMul, Nat.reduceEqDiff, ↓reduceIte]
   rw [pair_hi (d := v / 10 % 10) (of_decide_eq_true (by kernel_rfl)) (by kernel_rfl) (by omega)]
   simp (maxSteps := 1000000) (disch := (first | omega | (simp only [lnA, List.length_map, List.length_range, true_and, and_true]; (try omega); done) | fail)) only [go_sem, hz, hw, set_back, Int.reduceSub, Int.reduceAdd, List.take_zero, List.nil_append, hl, Int.reduceEq, Int.reduceToNat, Nat.reduceAdd, Nat.reduceMul, Nat.reduceEqDiff, ↓reduceIte]
   rw [pair_lo (d := v / 100 % 10) (of_decide_eq_true (by kernel_rfl)) (by kernel_rfl) (by omega)]
   simp (maxSteps := 1000000) (disch := (first | omega | (simp only [lnA, List.length_map, List.length_range, true_and, and_true]; (try omega); done) | fail)) only [go_sem, hz, hw, set_back, Int.reduceSub, Int.reduceAdd, List.take_zero, List.nil_append, hl, Int.reduceEq, Int.reduceToNat, Nat.reduceAdd, Nat.reduceMul, Nat.reduceEqDiff, ↓reduceIte]
   rw [pair_hi (d := v / 1000 % 10) (of_decide_eq_true (by kernel_rfl)) (by kernel_rfl) (by omega)]
   simp (maxSteps := 1000000) (disch := (first | omega | (simp only [lnA, List.length_map, List.length_range, true_and, and_true]; (try omega); done) | fail)) only [go_sem, hz, hw, set_back, Int.reduceSub, Int.reduceAdd, List.take_zero, List.nil_append, hl, Int.reduceEq, Int.reduceToNat, Nat.reduceAdd, Nat.reduceMul, Nat.reduceEqDiff, ↓reduceIte]
   exact endW [some 0] hQ
  ·
   have hz : ((6 : Nat) : Int) = 6 := rfl
   have hvm : v < 1000000 := by simpa using hv1
   have hw := hw (by omega)
   rw [show decL 6 v = [v / 100000 % 10, v / 10000 % 10, v / 1000 % 10, v / 100 % 10, v / 10 % 10, v % 10] by simp [decL, Nat.div_div_eq_div_mul]] at hQ
   simp (maxSteps := 1000000) (disch := (first | omega | (simp only [lnA, List.length_map, List.length_range, true_and, and_true]; (try omega); done) | fail)) only [go_sem, hz, hw, set_back, Int.reduceSub, Int.reduceAdd, List.take_zero, List.nil_append, Int.reduceEq, Int.reduceToNat, Nat.reduceAdd, Nat.reduceMul, Nat.reduceEqDiff, ↓reduceIte]
   rw [pair_lo (d := v % 10) (of_decide_eq_true (by kernel_rfl)) (by kernel_rfl) (by omega)]
   simp (maxSteps := 1000000) (disch := (first | omega | (simp only [lnA, List.length_map, List.length_range, true_and, and_true]; (try omega); done) | fail)) only [go_sem, hz, hw, set_back, Int.reduceSub, Int.reduceAdd, List.take_zero, List.nil_append, Int.reduceEq, Int.reduceToNat, Nat.reduceAdd, Nat.reduceMul, Nat.reduceEqDiff, ↓reduceIte]
   rw [pair_hi (d := v / 10 % 10) (of_decide_eq_true (by kernel_rfl)) (by kernel_rfl) (by omega)]
   simp (maxSteps := 1000000) (disch := (first | omega | (simp only [lnA, List.length_map, List.length_range, true_and, and_true]; (try omega); done) | fail)) only [go_sem, hz, hw, set_back, Int.reduceSub, Int.reduceAdd, List.take_zero, List.nil_append, Int.reduceEq, Int.reduceToNat, Nat.reduceAdd, Nat.reduceMul, Nat.reduceEqDiff, ↓reduceIte]
   rw [pair_lo (d := v / 100 % 10) (of_decide_eq_true (by kernel_rfl)) (by kernel_rfl) (by omega)]
   simp (maxSteps := 1000000) (disch := (first | omega | (simp only [lnA, List.length_map, List.length_range, true_and, and_true]; (try omega); done) | fail)) only [go_sem, hz, hw, set_back, Int.reduceSub, Int.reduceAdd, List.take_zero, List.nil_append, Int.reduceEq, Int.reduceToNat, Nat.reduceAdd, Nat.reduceMul, Nat.reduceEqDiff, ↓reduceIte]
   rw [pair_hi (d := v / 1000 % 10) (of_decide_eq_true (by kernel_rfl)) (by kernel_rfl) (by omega)]
   simp (maxSteps := 1000000) (disch := (first | omega | (simp only [lnA, List.length_map, List.length_range, true_and, and_true]; (try omega); done) | fail)) only [go_sem, hz, hw, set_back, Int.reduceSub, Int.reduceAdd, List.take_zero, List.nil_append, Int.reduceEq, Int.reduceToNat, Nat.reduceAdd, Nat.reduceMul, Nat.reduceEqDiff, ↓reduceIte]
   rw [pair_lo (d := v / 10000 % 10) (of_decide_eq_true (by kernel_rfl)) (by kernel_rfl) (by omega)]
   simp (maxSteps := 1000000) (disch := (first | omega | (simp only [lnA, List.length_map, List.length_range, true_and, and_true]; (try omega); done) | fail)) only [go_sem, hz, hw, set_back, Int.reduceSub, Int.reduceAdd, List.take_zero, List.nil_append, Int.reduceEq, Int.reduceToNat, Nat.reduceAdd, Nat.reduceMul, Nat.reduceEqDiff, ↓reduceIte]
   rw [pair_hi (d := v / 100000 % 10) (of_decide_eq_true (by kernel_rfl)) (by kernel_rfl) (by omega)]
   simp (maxSteps := 1000000) (disch := (first | omega | (simp only [lnA, List.length_map, List.length_range, true_and, and_true]; (try omega); done) | fail)) only [go_sem, hz, hw, set_back, Int.reduceSub, Int.reduceAdd, List.take_zero, List.nil_append, Int.reduceEq, Int.reduceToNat, Nat.reduceAdd, Nat.reduceMul, Nat.reduceEqDiff, ↓reduceIte]
   exact endW [some 0] hQ
  ·
   have hz : ((7 : Nat) : Int) = 7 := rfl
   have hvm : v < 10000000 := by simpa using hv1
   have hw := hw (by omega)
   rw [show decL 7 v = [v / 1000000 % 10, v / 100000 % 10, v / 10000 % 10, v / 1000 % 10, v / 100 % 10, v / 10 % 10, v % 10] by simp [decL, Nat.div_div_eq_div_mul]] at hQ
   have hl : 48 + (v : Int) / 10000 / 100 = ch (v / 1000000 % 10) := by unfold ch; omega
   simp (maxSteps := 1000000) (disch := (first | omega | (simp only [lnA, List.length_map, List.length_range, true_and, and_true]; (try omega); done) | fail)) only [go_sem, hz, hw, set_back, Int.reduceSub, Int.reduceAdd, List.take_zero, List.nil_append, hl, Int.reduceEq, Int.reduceToNat, Nat.reduceAdd, Nat.reduceMul, Nat.reduceEqDiff, ↓reduceIte]
   rw [pair_lo (d := v % 10) (of_decide_eq_true (by kernel_rfl)) (by kernel_rfl) (by omega)]
   simp (maxSteps := 1000000) (disch := (first | omega | (simp only [lnA, List.length_map, List.length_range, true_and, and_true]; (try omega); done) | fail)) only [go_sem, hz, hw, set_back, Int.reduceSub, Int.reduceAdd, List.take_zero, List.nil_append, hl, Int.reduceEq, Int.reduceToNat, Nat.reduceAdd, Nat.reduceMul, Nat.reduceEqDiff, ↓reduceIte]
   rw [pair_hi (d := v / 10 % 10) (of_decide_eq_true (by kernel_rfl)) (by kernel_rfl) (by omega)]
   simp (maxSteps := 1000000) (disch := (first | omega | (simp only [lnA, List.length_map, List.length_range, true_and, and_true]; (try omega); done) | fail)) only [go_sem, hz, hw, set_back, Int.reduceSub, Int.reduceAdd, List.take_zero, List.nil_append, hl, Int.reduceEq, Int.reduceToNat, Nat.reduceAdd, Nat.reduceMul, Nat.reduceEqDiff, ↓reduceIte]
   rw [pair_lo (d := v / 100 % 10) (of_decide_eq_true (by kernel_rfl)) (by kernel_rfl) (by omega)]
   simp (maxSteps := 1000000) (disch := (first | omega | (simp only [lnA, List.length_map, List.length_range, true_and, and_true]; (try omega); done) | fail)) only [go_sem, hz, hw, set_back, Int.reduceSub, Int.reduceAdd, List.take_zero, List.nil_append, hl, Int.reduceEq, Int.reduceToNat, Nat.reduceAdd, Nat.reduceMul, Nat.reduceEqDiff, ↓reduceIte]
   rw [pair_hi (d := v / 1000 % 10) (of_decide_eq_true (by kernel_rfl)) (by kernel_rfl) (by omega)]
   simp (maxSteps := 1000000) (disch := (first | omega | (simp only [lnA, List.length_map, List.length_range, true_and, and_true]; (try omega); done) | fail)) only [go_sem, hz, hw, set_back, Int.reduceSub, Int.reduceAdd, List.take_zero, List.nil_append, hl, Int.reduceEq, Int.reduceToNat, Nat.reduceAdd, Nat.reduceMul, Nat.reduceEqDiff, ↓reduceIte]
   rw [pair_lo (d := v / 10000 % 10) (of_decide_eq_true (by kernel_rfl)) (by kernel_rfl) (by omega)]
   simp (maxSteps := 1000000) (disch := (first | omega | (simp only [lnA, List.length_map, List.length_range, true_and, and_true]; (try omega); done) | fail)) only [go_sem, hz, hw, set_back, Int.reduceSub, Int.reduceAdd, List.take_zero, List.nil_append, hl, Int.reduceEq, Int.reduceToNat, Nat.reduceAdd, Nat.reduceMul, Nat.reduceEqDiff, ↓reduceIte]
   rw [pair_hi (d := v / 100000 % 10) (of_decide_eq_true (by kernel_rfl)) (by kernel_rfl) (by omega)]
   simp (maxSteps := 1000000) (disch := (first | omega | (simp only [lnA, List.length_map, List.length_range, true_and, and_true]; (try omega); done) | fail)) only [go_sem, hz, hw, set_back, Int.reduceSub, Int.reduceAdd, List.take_zero, List.nil_append, hl, Int.reduceEq, Int.reduceToNat, Nat.reduceAdd, Nat.reduceMul, Nat.reduceEqDiff, ↓reduceIte]
   exact endW [some 0] hQ
end Go.Proofs.YtdohmppildfjhaaGreatDoor
