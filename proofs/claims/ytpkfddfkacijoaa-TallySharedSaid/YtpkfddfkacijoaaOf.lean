import Derived.Test.YtpkfddfkacijoaaOe
import Derived.Test.YtpkfddfkacijoaaJc
import Derived.Test.YtpkfddfkacijoaaRf
import Derived.Test.YtpkfddfkacijoaaVy
namespace Go.Proofs.Ytpkfddfkacijoaa
open Go.Eng Go.Vx
set_option linter.unusedSimpArgs false
set_option linter.unusedVariables false
set_option maxRecDepth 100000
theorem hofS_fn {a b k : Nat} (ha : a < 2305843009213693951) (hb : b < 2305843009213693951) (hk : k < 2305843009213693951) : ∃ c : Nat, c < 8 ∧ Fn1 Try.prog 19 [.agg [.lit (.int .u64 a), .lit (.int .u64 b)], .lit (.int .u64 k), .lit (.int .i64 8)] [] (.tup [.lit (.int .i64 (c : Int)), .lit (.int .i64 0)]) [] :=
  ⟨(a * k + b) % pr % 8, Nat.mod_lt _ (by decide), hof_fn (a := a) (b := b) (k := k) (c := 8) ha hb hk ⟨by decide, by decide⟩⟩
theorem cmpI_self (a : Nat) : cmpI a a = 0 := by unfold cmpI; simp
theorem wth_sh (k : Nat) : wth (k, 0) 1 = k := by
  show k * 2 ^ (1 * 0) = k
  rw [Nat.mul_zero, Nat.pow_zero, Nat.mul_one]
theorem shC_at {K : List Nat} {i : Nat} (h : i < K.length) : (shC K)[i]? = some (K.getD i 0, 0) := by
  unfold shC
  rw [List.getElem?_map, List.getElem?_eq_getElem h, List.getD_eq_getElem?_getD, List.getElem?_eq_getElem h]
  rfl
theorem set_le {K : List Nat} {i x B : Nat} (h : ∀ k ∈ K, k ≤ B) (hx : x ≤ B) : ∀ k ∈ K.set i x, k ≤ B := fun k hk => by
  rcases List.mem_or_eq_of_mem_set hk with h1 | h1
  · exact h k h1
  · omega
theorem getD_leB {K : List Nat} {i B : Nat} (h : ∀ k ∈ K, k ≤ B) : K.getD i 0 ≤ B := by
  by_cases hi : i < K.length
  · rw [List.getD_eq_getElem?_getD, List.getElem?_eq_getElem hi]
    exact h _ (List.getElem_mem hi)
  · rw [List.getD_eq_getElem?_getD, List.getElem?_eq_none (by omega)]
    exact Nat.zero_le _
theorem saddS_fn {K : List Nat} {c : Nat} {L : List Bool} (hK : K.length = 8) (hB : ∀ k ∈ K, k ≤ 100) (hc : c < 8) (hL : L.length ≤ 400) :
    Fn1 Try.prog 20 [.ref 0 0 0 0, .ref 1 0 0 0, .lit (.int .i64 (c : Int)), .lit (.int .i64 1)] [some (saC 8 2 4 (shS K)), some (tpC L 0 false)]
    (.lit (.int .i64 0)) [some (saC 8 2 4 (shS (K.set c (K.getD c 0 + 1)))), some (tpC L 0 false)] := by
  have hw : WB 8 2 4 := ⟨by decide, by decide, by decide, by decide, by decide, by decide⟩
  have h := sadd_fn (M := 8) (D := 2) (S := 4) (p := 0) (i := c) (n := 1) (st := shS K) (d := false) (L := L) hw (by omega) (Nat.zero_le _) (fun h => by cases h)
    (by show (shC K).length ≤ 256; rw [shC_len]; omega) (by show c < (shC K).length; rw [shC_len]; omega) (shS_ok (by decide) (fun k hk => Nat.le_trans (hB k hk) (by decide))) (by decide)
  have e : addR 8 2 4 L false (shS K) c 1 0 = (shS (K.set c (K.getD c 0 + 1)), 0, 0, false) := by
    unfold addR
    rw [addD_sh (P := SPof 8 2 4) (by have := getD_leB (i := c) hB; show _ ≤ 255; omega)]
    rfl
  rw [e] at h
  exact h
theorem smergeS_fn {K : List Nat} {L : List Bool} (hK : K.length = 8) (hB : ∀ k ∈ K, k ≤ 100) (hL : L.length ≤ 400) :
    Fn1 Try.prog 25 [.ref 0 0 0 0, .ref 1 0 0 0, .ref 2 0 0 0] [some (saC 8 2 4 (shS K)), some (tpC L 0 false), some (saC 8 2 4 (shS K))]
    (.lit (.int .i64 0)) [some (saC 8 2 4 (shS (K.map (2 * ·)))), some (tpC L 0 false), some (saC 8 2 4 (shS K))] := by
  have hw : WB 8 2 4 := ⟨by decide, by decide, by decide, by decide, by decide, by decide⟩
  have ok := shS_ok (P := SPof 8 2 4) (K := K) (by decide) (fun k hk => Nat.le_trans (hB k hk) (by decide))
  have h := smerge_fn (M := 8) (D := 2) (S := 4) (n := 8) (p := 0) (x := shS K) (y := shS K) (d := false) (L := L) hw (by omega) (Nat.zero_le _) (fun h => by cases h) (by decide)
    (by show (shC K).length = 8; rw [shC_len]; exact hK) (by show (shC K).length = 8; rw [shC_len]; exact hK) ok ok
  have e : mergeR 8 2 4 L false (shS K) (shS K) 0 = (shS (K.map (2 * ·)), 0, 0, false) := by
    unfold mergeR
    rw [mergeD_sh (P := SPof 8 2 4) (fun k hk => by have := hB k hk; show _ ≤ 255; omega)]
    rfl
  rw [e] at h
  exact h
theorem svalLS_fn {K : List Nat} {i : Nat} (hK : K.length = 8) (hB : ∀ k ∈ K, k ≤ 1000) (hi : i < 8) : Fn1 Try.prog 21 [.ref 0 0 0 0, .lit (.int .i64 (i : Int))] [some (saC 8 2 4 (shS K))] (.tup [NV (K.getD i 0), .lit (.int .i64 0)]) [some (saC 8 2 4 (shS K))] := by
  have h := svalueL_fn (M := 8) (D := 2) (S := 4) (st := shS K) (i := i) (shC_at (by omega)) (by show (shC K).length ≤ 256; rw [shC_len]; omega) (by have := getD_leB (i := i) hB; show K.getD i 0 < _; omega) (by show 1 * 0 ≤ 8192; omega)
  rw [show wth (K.getD i 0, 0) (shS K).2.1 = K.getD i 0 from wth_sh _] at h
  exact h
theorem dbl_get {K : List Nat} {i : Nat} : (K.map (2 * ·)).getD i 0 = 2 * K.getD i 0 := by
  simp only [List.getD_eq_getElem?_getD, List.getElem?_map]
  cases K[i]? <;> rfl
set_option maxHeartbeats 16000000 in
theorem tallyShared_fn {W : List Nat} {a b : Nat} {L0 : List Bool} (hW : W.length ≤ 9223372036854775807) (hk : ∀ k ∈ W, k < 18446744073709551616) (ha : a < 18446744073709551616) (hb : b < 18446744073709551616) (hL0 : L0.length ≤ 9223372036854775807) :
    Fn1 Try.prog 4 [.row 1 ((nl W).map (ie .u64)), .agg [.lit (.int .u64 (a : Int)), .lit (.int .u64 (b : Int))], .row 1 (L0.map be)] [] (.lit (.bool true)) [] := by
  have hlW := nl_len W
  have htl : (L0.take 400).length ≤ 400 := by rw [List.length_take]; omega
  have fa : ((a : Nat) : Int) % 2305843009213693951 = ((a % 2305843009213693951 : Nat) : Int) := rfl
  have fb : ((b : Nat) : Int) % 2305843009213693951 = ((b % 2305843009213693951 : Nat) : Int) := rfl
  have hA : a % 2305843009213693951 < 2305843009213693951 := Nat.mod_lt _ (by decide)
  have hB : b % 2305843009213693951 < 2305843009213693951 := Nat.mod_lt _ (by decide)
  generalize a % 2305843009213693951 = A at *
  generalize b % 2305843009213693951 = Bh at *
  have hnew : Fn1 _ _ [.agg [.lit (.int .i64 8), .lit (.int .i64 2), .lit (.int .i64 4)], .lit (.int .i64 8)] [] (.tup [.ref 0 0 0 0, .lit (.int .i64 0)]) [some (saC 8 2 4 (shS (List.replicate 8 0)))] := snew_fn (M := 8) (D := 2) (S := 4) (n := 8) ⟨⟨by decide, by decide⟩, ⟨by decide, by decide⟩, by decide, by decide⟩ (by decide)
  have hck := checkOk_fn hA hB
  refine fn1N_of pl4 (by kernel_rfl) Try.call4 Try.func4 rfl (by kernel_rfl) rfl [.tmp 6] (by kernel_rfl) fun Q hQ => ?_
  by_cases hlen : 400 < L0.length
  case' pos =>
    simp (maxSteps := 1000000) (disch := (first | omega | (simp only [lnA, List.length_map, List.length_range, true_and, and_true]; (try omega); done) | fail)) only [go_sem, fa, fb, Int.reduceEq, Int.reduceToNat, Nat.reduceAdd, Nat.reduceMul, Nat.reduceEqDiff, ↓reduceIte]
    obtain ⟨L, hLe⟩ : ∃ L, L = L0.take 400 := ⟨_, rfl⟩
    have hL : L.length ≤ 400 := by rw [hLe]; exact htl
    rw [← hLe]
  case' neg =>
    simp (maxSteps := 1000000) (disch := (first | omega | (simp only [lnA, List.length_map, List.length_range, true_and, and_true]; (try omega); done) | fail)) only [go_sem, fa, fb, Int.reduceEq, Int.reduceToNat, Nat.reduceAdd, Nat.reduceMul, Nat.reduceEqDiff, ↓reduceIte]
    obtain ⟨L, hLe⟩ : ∃ L, L = L0 := ⟨_, rfl⟩
    have hL : L.length ≤ 400 := by rw [hLe]; omega
    rw [← hLe]
  all_goals
    clear hLe hlen htl
    have htp := newT_fn (L := L) (by omega)
    refine callW [] [] (hnew) ?_
    refine runW ?_
    refine callV0 (hck) rfl rfl ?_
    refine runW ?_
    refine callW [] [] (htp) ?_
    refine runW ?_
    refine LoopV_of (X := Nat × List Nat) (st := fun u => ([(0, .row 1 ((nl W).map (ie .u64))), (7, .ref 0 0 0 0), (8, .ref 1 0 0 0), (10, .ref 2 0 0 0), (11, .ref 3 0 0 0), (12, .lit (.int .i64 (u.1 : Int)))],
        [some (.cells [.lit (.int .u64 (A : Int)), .lit (.int .u64 (Bh : Int))]), some (saC 8 2 4 (shS u.2)), some (tpC L 0 false), some (.cells (arrI (nl u.2)))]))
      (inv := fun u => u.1 ≤ 100 ∧ u.2.length = 8 ∧ ∀ k ∈ u.2, k ≤ u.1) (m := fun u => 100 - u.1) (0, List.replicate 8 0) [some 1, some 2, some 3, some 4] rfl (by simp only [show arrI (nl (List.replicate 8 0)) = [V.lit (Value.int .i64 0), V.lit (Value.int .i64 0), V.lit (Value.int .i64 0), V.lit (Value.int .i64 0), V.lit (Value.int .i64 0), V.lit (Value.int .i64 0), V.lit (Value.int .i64 0), V.lit (Value.int .i64 0)] from rfl]; (simp (disch := (first | omega | (simp only [lnA, List.length_map, List.length_range, true_and, and_true]; (try omega); done) | fail)) only [go_sem, Int.reduceEq, Int.reduceToNat, Nat.reduceAdd, Nat.reduceMul, Nat.reduceEqDiff, ↓reduceIte, true_and, and_true, and_self, List.drop_zero, List.take_length, Nat.le_refl, V.lit.injEq, Value.int.injEq, Value.bool.injEq]; try (first | omega | (simp; done) | (simp; omega)))) (by simp (disch := (first | omega | (simp only [lnA, List.length_map, List.length_range, true_and, and_true]; (try omega); done) | fail)) only [go_sem, Int.reduceEq, Int.reduceToNat, Nat.reduceAdd, Nat.reduceMul, Nat.reduceEqDiff, ↓reduceIte, true_and, and_true, and_self, List.drop_zero, List.take_length, Nat.le_refl, V.lit.injEq, Value.int.injEq, Value.bool.injEq]; try (first | omega | (simp; done) | (simp; omega))) ⟨Nat.zero_le _, rfl, fun k hk => Nat.le_of_eq (List.eq_of_mem_replicate hk)⟩ ?_
    rintro ⟨i, K⟩ ⟨hi, hK, hKi⟩
    dsimp only at hi hK hKi ⊢
    have hnK : (nl K).length = 8 := by rw [nl_len]; exact hK
    have hai : (arrI (nl K)).length = 8 := by rw [arrI_len]; exact hnK
    have hK100 : ∀ k ∈ K, k ≤ 100 := fun k hk => by have := hKi k hk; omega
    by_cases h1 : i < W.length ∧ i < 100
    · obtain ⟨h1, h2⟩ := h1
      have hkey : (nl W).getD i 0 = ((W.getD i 0 : Nat) : Int) := nl_get W i
      have hkm : ((W.getD i 0 : Nat) : Int) % 2305843009213693951 = ((W.getD i 0 % 2305843009213693951 : Nat) : Int) := rfl
      have hkb : W.getD i 0 % 2305843009213693951 < 2305843009213693951 := Nat.mod_lt _ (by decide)
      obtain ⟨c, hc, hof⟩ := hofS_fn hA hB hkb
      have had := saddS_fn (L := L) hK hK100 hc hL
      have hset := nl_set K c (K.getD c 0 + 1)
      have hget := nl_get K c
      have hle := set_le (i := c) (x := K.getD c 0 + 1) (B := i + 1) (fun k hk => Nat.le_succ_of_le (hKi k hk)) (Nat.succ_le_succ (getD_leB hKi))
      have hsl : (K.set c (K.getD c 0 + 1)).length = 8 := by rw [List.length_set]; exact hK
      have hgb := getD_leB (i := c) hKi
      generalize W.getD i 0 % 2305843009213693951 = key at *
      generalize K.set c (K.getD c 0 + 1) = K2 at *
      generalize K.getD c 0 = kc at *
      rw [show ((kc + 1 : Nat) : Int) = (kc : Int) + 1 by omega] at hset
      simp (maxSteps := 1000000) (disch := (first | omega | (simp only [lnA, List.length_map, List.length_range, true_and, and_true]; (try omega); done) | fail)) only [go_sem, hkey, hkm, Int.reduceEq, Int.reduceToNat, Nat.reduceAdd, Nat.reduceMul, Nat.reduceEqDiff, ↓reduceIte]
      refine callV0 (hof) rfl rfl ?_
      refine runW ?_
      refine callW [some 1, some 2] [] (had) ?_
      simp (maxSteps := 1000000) (disch := (first | omega | (simp only [lnA, List.length_map, List.length_range, true_and, and_true]; (try omega); done) | fail)) only [go_sem, hget, hset, Int.reduceEq, Int.reduceToNat, Nat.reduceAdd, Nat.reduceMul, Nat.reduceEqDiff, ↓reduceIte]
      refine nextW (i + 1, K2) [some 0, some 1, some 2, some 3] ⟨h2, hsl, hle⟩ (by dsimp only; omega)
    · have hmg := smergeS_fn (L := L) hK hK100 hL
      have hcl := sclone_fn (M := 8) (D := 2) (S := 4) (st := shS K) (by show (shC K).length ≤ 256; rw [shC_len]; omega) (by intro e; have := congrArg List.length e; rw [show (shS K).1 = shC K from rfl, shC_len, hK] at this; cases this)
      have hrd := readT_fn (L := L) (p := 0) (d := false)
      have hfl := sfull_fn (M := 8) (D := 2) (S := 4) (st := shS (K.map (2 * ·)))
      have hsc := sscale_fn (M := 8) (D := 2) (S := 4) (st := shS (K.map (2 * ·)))
      rw [show (shS (K.map (2 * ·))).2.2 = false from rfl] at hfl
      rw [show (((shS (K.map (2 * ·))).2.1 : Nat) : Int) = 1 from rfl] at hsc
      have hloop1 : i < W.length → i < 100 → False := fun a b => h1 ⟨a, b⟩
      by_cases h2 : i < W.length
      case' pos => have h3 : ¬ i < 100 := fun h => h1 ⟨h2, h⟩
      all_goals
        refine runW ?_
        refine loopW (X := Nat) (st := fun j => ([(8, .ref 0 0 0 0), (10, .ref 1 0 0 0), (11, .ref 2 0 0 0), (96, .agg (arrI (nl K))), (97, .lit (.int .i64 (j : Int)))],
            [some (saC 8 2 4 (shS K)), some (tpC L 0 false), some (.cells (arrI (nl K)))]))
          (inv := fun j => j ≤ 8) (m := fun j => 8 - j) 0 [some 1, some 2, some 3] (Nat.zero_le _) ?_
        intro j hj
        by_cases hjl : j < 8
        · have hv := svalLS_fn (i := j) hK (fun k hk => Nat.le_trans (hK100 k hk) (by decide)) hjl
          have hgj := nl_get K j
          have hkj := getD_leB (i := j) hK100
          generalize K.getD j 0 = kj at *
          have o := of1_fn (x := kj) (by omega)
          have cm := ncmp_fn (a := kj) (b := kj) (Nat.le_trans (wg_one (by omega)) (by decide)) (Nat.le_trans (wg_one (by omega)) (by decide))
          rw [cmpI_self] at cm
          simp (maxSteps := 1000000) (disch := (first | omega | (simp only [lnA, List.length_map, List.length_range, true_and, and_true]; (try omega); done) | fail)) only [go_sem, hgj, hai, Int.reduceEq, Int.reduceToNat, Nat.reduceAdd, Nat.reduceMul, Nat.reduceEqDiff, ↓reduceIte]
          refine callW [some 0] [] (hv) ?_
          simp (maxSteps := 1000000) (disch := (first | omega | (simp only [lnA, List.length_map, List.length_range, true_and, and_true]; (try omega); done) | fail)) only [go_sem, hgj, Int.reduceEq, Int.reduceToNat, Nat.reduceAdd, Nat.reduceMul, Nat.reduceEqDiff, ↓reduceIte]
          refine callW [] [4] (o) ?_
          refine runW ?_
          refine callV0 (cm) rfl rfl ?_
          refine runW ?_
          refine nextW (j + 1) [some 0, some 1, some 2] (by omega) (by omega)
        · obtain rfl : j = 8 := by omega
          refine runW ?_
          refine callF (hcl) ?_
          refine runW ?_
          refine callW [some 0, some 1, some 3] [4] (hmg) ?_
          refine runW ?_
          refine callT (hrd) ?_
          refine runW ?_
          refine loopW (X := Nat) (st := fun j => ([(8, .ref 0 0 0 0), (131, .agg (arrI (nl K))), (132, .lit (.int .i64 (j : Int)))],
              [some (saC 8 2 4 (shS (K.map (2 * ·))))]))
            (inv := fun j => j ≤ 8) (m := fun j => 8 - j) 0 [some 0] (Nat.zero_le _) ?_
          intro j hj
          by_cases hjl : j < 8
          · have hv := svalLS_fn (K := K.map (2 * ·)) (i := j) (by rw [List.length_map]; exact hK) (fun k hk => by
              obtain ⟨x, hx, rfl⟩ := List.mem_map.1 hk
              have := hK100 x hx
              omega) hjl
            rw [dbl_get] at hv
            have hgj := nl_get K j
            have hkj := getD_leB (i := j) hK100
            generalize K.getD j 0 = kj at *
            have hdb : 2 * ((kj : Nat) : Int) = ((2 * kj : Nat) : Int) := by omega
            have o := of1_fn (x := 2 * kj) (by omega)
            have cm := ncmp_fn (a := 2 * kj) (b := 2 * kj) (Nat.le_trans (wg_one (by omega)) (by decide)) (Nat.le_trans (wg_one (by omega)) (by decide))
            rw [cmpI_self] at cm
            generalize 2 * kj = kk at *
            simp (maxSteps := 1000000) (disch := (first | omega | (simp only [lnA, List.length_map, List.length_range, true_and, and_true]; (try omega); done) | fail)) only [go_sem, hgj, hdb, hai, Int.reduceEq, Int.reduceToNat, Nat.reduceAdd, Nat.reduceMul, Nat.reduceEqDiff, ↓reduceIte]
            refine callW [some 0] [] (hv) ?_
            simp (maxSteps := 1000000) (disch := (first | omega | (simp only [lnA, List.length_map, List.length_range, true_and, and_true]; (try omega); done) | fail)) only [go_sem, hgj, hdb, Int.reduceEq, Int.reduceToNat, Nat.reduceAdd, Nat.reduceMul, Nat.reduceEqDiff, ↓reduceIte]
            refine callW [] [2] (o) ?_
            refine runW ?_
            refine callV0 (cm) rfl rfl ?_
            refine runW ?_
            refine nextW (j + 1) [some 0] (by omega) (by omega)
          · obtain rfl : j = 8 := by omega
            refine runW ?_
            refine callT (hfl) ?_
            refine runW ?_
            refine callT (hsc) ?_
            refine runW ?_
            exact endW [] hQ
end Go.Proofs.Ytpkfddfkacijoaa
