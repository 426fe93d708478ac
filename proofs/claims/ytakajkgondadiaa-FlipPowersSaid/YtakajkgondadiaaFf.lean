import Derived.Test.YtakajkgondadiaaFe
/-! FlipWeighs, FlipPowers. -/
namespace Go.Proofs.Ytakajkgondadiaa
open Go.Eng Go.Vx
set_option linter.unusedSimpArgs false
set_option linter.unusedVariables false
set_option maxRecDepth 100000
theorem half_spec {K : Nat} (h : K ≤ 8) : ftreeX (askH K) 8 = (((2 ^ (8 - K) : Nat) : Int), 256 - ((2 ^ (8 - K) : Nat) : Int), 0) := by
  have h1 := List.all_eq_true.1 halfOks K (List.mem_range.2 (by omega))
  unfold halfOk at h1
  exact eq_of_beq h1
theorem ftreeX_ok (A : List Bool → Bool × Int) (most : Nat) : FtOk (2 ^ most) (ftreeX A most) := by
  have h := ftree_ok A most [] (0, 0, 0) 0 (by unfold FtOk; simp)
  rw [Int.zero_add] at h
  exact h
theorem rat_spec {D P : Nat} (h1 : 1 ≤ D) (h2 : D ≤ 60) (h3 : P ≤ D) : ratOk D P = true := by
  by_cases h : D ≤ 30
  · have e := List.all_eq_true.1 (List.all_eq_true.1 ratOks1 D (List.mem_range.2 (by omega))) P (List.mem_range.2 (by omega))
    rw [Bool.or_eq_true] at e
    rcases e with e | e
    · exact e
    · have := eq_of_beq e; omega
  · have e := List.all_eq_true.1 (List.all_eq_true.1 ratOks2 (D - 30) (List.mem_range.2 (by omega))) P (List.mem_range.2 (by omega))
    rwa [show D - 30 + 30 = D by omega] at e
theorem prod_le {x y : Int} {X Y : Int} (h0 : 0 ≤ x) (h1 : x ≤ X) (h2 : 0 ≤ y) (h3 : y ≤ Y) : 0 ≤ x * y ∧ x * y ≤ X * Y :=
  ⟨Int.mul_nonneg h0 h2, Int.le_trans (Int.mul_le_mul_of_nonneg_right h1 h2) (Int.mul_le_mul_of_nonneg_left h3 (by omega))⟩
set_option maxHeartbeats 1000000 in
theorem flipWeighs_fn {a b c : Int} : Fn1 Try.prog 3 [.agg [.lit (.int .i64 a), .lit (.int .i64 b), .lit (.int .i64 c)]] [] (.lit (.bool true)) [] := by
  obtain ⟨K, hK⟩ : ∃ m : Nat, max 0 (min c 8) = (m : Int) := ⟨(max 0 (min c 8)).toNat, by omega⟩
  have hK2 : K ≤ 8 := by omega
  obtain ⟨D, hD⟩ : ∃ m : Nat, 1 + b % 1024 % 60 = (m : Int) := ⟨(1 + b % 1024 % 60).toNat, by omega⟩
  have hD1 : 1 ≤ D := by omega
  have hD2 : D ≤ 60 := by omega
  obtain ⟨A, hA⟩ : ∃ m : Nat, a % 1024 = (m : Int) := ⟨(a % 1024).toNat, by omega⟩
  have hPm : (A : Int) % ((D : Int) + 1) = ((A % (D + 1) : Nat) : Int) := by simp
  have hP : A % (D + 1) < D + 1 := Nat.mod_lt _ (by omega)
  generalize A % (D + 1) = P at *
  have hs1 := half_spec hK2
  have hk8 : (8 : Int) - (K : Int) = ((8 - K : Nat) : Int) := by omega
  have hsh := sh1_f (k := 8 - K) (by omega)
  have hW : 2 ^ (8 - K) ≤ 2 ^ 8 := Nat.pow_le_pow_right (by decide) (by omega)
  generalize 2 ^ (8 - K) = W at *
  have hs2 := rat_spec hD1 hD2 (show P ≤ D by omega)
  have hok := ftreeX_ok (askF P D) 10
  unfold ratOk ratT at hs2
  have ht := ftree2_fn (most := 10) (by decide) ((askF_fn (P := P) (D := D) (by omega) (by omega)).le (by decide))
  generalize ftreeX (askF P D) 10 = r at *
  obtain ⟨y, no, o⟩ := r
  unfold FtOk at hok
  simp only [Bool.and_eq_true, beq_iff_eq, decide_eq_true_eq] at hs2 hok ht
  obtain ⟨⟨⟨q1, q2⟩, q3⟩, q4⟩ := hs2
  have p1 := prod_le (x := y) (y := (D : Int)) (X := 1024) (Y := 60) (by omega) (by omega) (by omega) (by omega)
  have p2 := prod_le (x := y + o) (y := (D : Int)) (X := 2048) (Y := 60) (by omega) (by omega) (by omega) (by omega)
  obtain ⟨u, hu⟩ : ∃ u, y * (D : Int) = u := ⟨_, rfl⟩
  obtain ⟨v, hv⟩ : ∃ v, (y + o) * (D : Int) = v := ⟨_, rfl⟩
  rw [hu] at p1 q2
  rw [hv] at p2 q3
  refine fn1_of pl3 (by kernel_rfl) Try.call3 Try.func3 rfl (by kernel_rfl) rfl [.tmp 2] (by kernel_rfl) fun Q hQ => ?_
  simp (maxSteps := 1000000) (disch := (first | omega | (simp only [List.length_append, List.length_set, List.length_cons, List.length_nil, List.length_replicate, List.length_take, List.length_drop, List.length_map, List.length_range, true_and, and_true]; (try omega); done) | fail)) only [go_sem, Int.reduceEq, Int.reduceToNat, Nat.reduceAdd, Nat.reduceMul, Nat.reduceEqDiff, ↓reduceIte]
  refine callV0 (awake10_fn) rfl rfl ?_
  simp (maxSteps := 1000000) (disch := (first | omega | (simp only [List.length_append, List.length_set, List.length_cons, List.length_nil, List.length_replicate, List.length_take, List.length_drop, List.length_map, List.length_range, true_and, and_true]; (try omega); done) | fail)) only [go_sem, hK, Int.reduceEq, Int.reduceToNat, Nat.reduceAdd, Nat.reduceMul, Nat.reduceEqDiff, ↓reduceIte]
  refine callW [some 1] [] (ftree1_fn (most := 8) (by decide) ((askH_fn (K := K) (by omega)).le (by decide))) ?_
  rw [hs1]
  simp (maxSteps := 1000000) (disch := (first | omega | (simp only [List.length_append, List.length_set, List.length_cons, List.length_nil, List.length_replicate, List.length_take, List.length_drop, List.length_map, List.length_range, true_and, and_true]; (try omega); done) | fail)) only [go_sem, hk8, Int.toNat_natCast, hsh, hD, hA, hPm, decide_true, Int.reduceEq, Int.reduceToNat, Nat.reduceAdd, Nat.reduceMul, Nat.reduceEqDiff, ↓reduceIte]
  refine callW [some 3, some 2] [] (ht) ?_
  simp (maxSteps := 1000000) (disch := (first | omega | (simp only [List.length_append, List.length_set, List.length_cons, List.length_nil, List.length_replicate, List.length_take, List.length_drop, List.length_map, List.length_range, true_and, and_true]; (try omega); done) | fail)) only [go_sem, hu, hv, q1, decide_eq_true q2, decide_eq_true q3, decide_eq_true q4, decide_true, Int.reduceEq, Int.reduceToNat, Nat.reduceAdd, Nat.reduceMul, Nat.reduceEqDiff, ↓reduceIte]
  exact endW [] hQ
theorem pow_spec {s P K : Nat} (h1 : s < 3) (h2 : P ≤ 2 ^ s) (h3 : K < 5) : powOk s P K = true :=
  List.all_eq_true.1 (List.all_eq_true.1 (List.all_eq_true.1 powOks s (List.mem_range.2 h1)) P (List.mem_range.2 (by omega))) K (List.mem_range.2 h3)
theorem pow_256 {x i : Nat} (hx : x ≤ 4) (hi : i ≤ 4) : x ^ i ≤ 256 := Nat.le_trans (Nat.pow_le_pow_left hx i) (Nat.le_trans (Nat.pow_le_pow_right (by decide) hi) (by decide))
set_option maxHeartbeats 1000000 in
theorem flipPowers_fn {a b c : Int} : Fn1 Try.prog 4 [.agg [.lit (.int .i64 a), .lit (.int .i64 b), .lit (.int .i64 c)]] [] (.lit (.bool true)) [] := by
  obtain ⟨S, hS⟩ : ∃ m : Nat, b % 4 % 3 = (m : Int) := ⟨(b % 4 % 3).toNat, by omega⟩
  have hS2 : S < 3 := by omega
  obtain ⟨K, hK⟩ : ∃ m : Nat, c % 8 % 5 = (m : Int) := ⟨(c % 8 % 5).toNat, by omega⟩
  have hK2 : K < 5 := by omega
  obtain ⟨A, hA⟩ : ∃ m : Nat, a % 16 = (m : Int) := ⟨(a % 16).toNat, by omega⟩
  have hsh := sh1_f (k := S) (by omega)
  have hD4 : 2 ^ S ≤ 2 ^ 2 := Nat.pow_le_pow_right (by decide) (by omega)
  have hD0 : 0 < 2 ^ S := Nat.pow_pos (by decide)
  have hs2 : ∀ P, P ≤ 2 ^ S → powOk S P K = true := fun P hP => pow_spec hS2 hP hK2
  unfold powOk powT at hs2
  generalize 2 ^ S = D at *
  have hPm : (A : Int) % ((D : Int) + 1) = ((A % (D + 1) : Nat) : Int) := by simp
  have hP : A % (D + 1) < D + 1 := Nat.mod_lt _ (by omega)
  generalize A % (D + 1) = P at *
  have hs2 := hs2 P (by omega)
  have hok := ftreeX_ok (askW P D K) 12
  have ht := ftree3_fn (most := 12) (by decide) ((askW_fn (P := P) (D := D) (K := K) (by omega) (by omega) (by omega)).le (by decide))
  generalize ftreeX (askW P D K) 12 = r at *
  obtain ⟨y, no, o⟩ := r
  unfold FtOk at hok
  simp only [Bool.and_eq_true, beq_iff_eq, decide_eq_true_eq] at hs2 hok ht
  obtain ⟨⟨q1, q2⟩, q3⟩ := hs2
  have hN := pow_256 (x := P) (i := K) (by omega) (by omega)
  have hE := pow_256 (x := D) (i := K) (by omega) (by omega)
  refine fn1_of pl4 (by kernel_rfl) Try.call4 Try.func4 rfl (by kernel_rfl) rfl [.tmp 2] (by kernel_rfl) fun Q hQ => ?_
  simp (maxSteps := 1000000) (disch := (first | omega | (simp only [List.length_append, List.length_set, List.length_cons, List.length_nil, List.length_replicate, List.length_take, List.length_drop, List.length_map, List.length_range, true_and, and_true]; (try omega); done) | fail)) only [go_sem, Int.reduceEq, Int.reduceToNat, Nat.reduceAdd, Nat.reduceMul, Nat.reduceEqDiff, ↓reduceIte]
  refine callV0 (awake10_fn) rfl rfl ?_
  simp (maxSteps := 1000000) (disch := (first | omega | (simp only [List.length_append, List.length_set, List.length_cons, List.length_nil, List.length_replicate, List.length_take, List.length_drop, List.length_map, List.length_range, true_and, and_true]; (try omega); done) | fail)) only [go_sem, hS, Int.toNat_natCast, hsh, hA, hPm, hK, Int.reduceEq, Int.reduceToNat, Nat.reduceAdd, Nat.reduceMul, Nat.reduceEqDiff, ↓reduceIte]
  refine callW [some 2, some 1, some 3] [] (ht) ?_
  simp (maxSteps := 1000000) (disch := (first | omega | (simp only [List.length_append, List.length_set, List.length_cons, List.length_nil, List.length_replicate, List.length_take, List.length_drop, List.length_map, List.length_range, true_and, and_true]; (try omega); done) | fail)) only [go_sem, Int.reduceEq, Int.reduceToNat, Nat.reduceAdd, Nat.reduceMul, Nat.reduceEqDiff, ↓reduceIte]
  refine LoopV_of (X := Nat) (st := fun i => ([(7, .lit (.int .i64 y)), (8, .lit (.int .i64 no)), (9, .lit (.int .i64 o)), (4, .ref 1 0 0 0), (5, .ref 2 0 0 0), (6, .ref 3 0 0 0), (10, .lit (.int .i64 ((P ^ i : Nat) : Int))), (11, .lit (.int .i64 ((D ^ i : Nat) : Int))), (36, .lit (.int .i64 (K : Int))), (37, .lit (.int .i64 (i : Int)))],
      [some (.cells [.lit (.int .i64 a), .lit (.int .i64 b), .lit (.int .i64 c)]), some (.cells [.lit (.int .i64 (D : Int))]), some (.cells [.lit (.int .i64 (P : Int))]), some (.cells [.lit (.int .i64 (K : Int))])]))
    (inv := fun i => i ≤ K) (m := fun i => K - i) 0 [some 0, some 1, some 2, some 3] rfl (by simp (disch := (first | omega | (simp only [List.length_append, List.length_set, List.length_cons, List.length_nil, List.length_replicate, List.length_take, List.length_drop, List.length_map, List.length_range, true_and, and_true]; (try omega); done) | fail)) only [go_sem, Int.reduceEq, Int.reduceToNat, Nat.reduceAdd, Nat.reduceMul, Nat.reduceEqDiff, ↓reduceIte, true_and, and_true, and_self, List.drop_zero, List.take_length, Nat.le_refl, V.lit.injEq, Value.int.injEq, Value.bool.injEq]; try (first | omega | (simp; done) | (simp; omega))) (by simp (disch := (first | omega | (simp only [List.length_append, List.length_set, List.length_cons, List.length_nil, List.length_replicate, List.length_take, List.length_drop, List.length_map, List.length_range, true_and, and_true]; (try omega); done) | fail)) only [go_sem, Int.reduceEq, Int.reduceToNat, Nat.reduceAdd, Nat.reduceMul, Nat.reduceEqDiff, ↓reduceIte, true_and, and_true, and_self, List.drop_zero, List.take_length, Nat.le_refl, V.lit.injEq, Value.int.injEq, Value.bool.injEq]; try (first | omega | (simp; done) | (simp; omega))) (by omega) ?_
  intro i hi
  by_cases hiK : i < K
  · have hNi := pow_256 (x := P) (i := i) (by omega) (by omega)
    have hEi := pow_256 (x := D) (i := i) (by omega) (by omega)
    have hNi1 := pow_256 (x := P) (i := i + 1) (by omega) (by omega)
    have hEi1 := pow_256 (x := D) (i := i + 1) (by omega) (by omega)
    have e1 : ((P ^ i : Nat) : Int) * (P : Int) = ((P ^ (i + 1) : Nat) : Int) := by rw [Nat.pow_succ]; simp
    have e2 : ((D ^ i : Nat) : Int) * (D : Int) = ((D ^ (i + 1) : Nat) : Int) := by rw [Nat.pow_succ]; simp
    simp (maxSteps := 1000000) (disch := (first | omega | (simp only [List.length_append, List.length_set, List.length_cons, List.length_nil, List.length_replicate, List.length_take, List.length_drop, List.length_map, List.length_range, true_and, and_true]; (try omega); done) | fail)) only [go_sem, e1, e2, Int.reduceEq, Int.reduceToNat, Nat.reduceAdd, Nat.reduceMul, Nat.reduceEqDiff, ↓reduceIte]
    refine nextW (i + 1) [some 0, some 1, some 2, some 3] (by omega) (by omega)
  · obtain rfl : i = K := by omega
    generalize P ^ i = N at *
    generalize D ^ i = E at *
    have p1 := prod_le (x := y) (y := (E : Int)) (X := 4096) (Y := 256) (by omega) (by omega) (by omega) (by omega)
    have p2 := prod_le (x := y + o) (y := (E : Int)) (X := 8192) (Y := 256) (by omega) (by omega) (by omega) (by omega)
    obtain ⟨u, hu⟩ : ∃ u, y * (E : Int) = u := ⟨_, rfl⟩
    obtain ⟨v, hv⟩ : ∃ v, (y + o) * (E : Int) = v := ⟨_, rfl⟩
    rw [hu] at p1 q2
    rw [hv] at p2 q3
    simp (maxSteps := 1000000) (disch := (first | omega | (simp only [List.length_append, List.length_set, List.length_cons, List.length_nil, List.length_replicate, List.length_take, List.length_drop, List.length_map, List.length_range, true_and, and_true]; (try omega); done) | fail)) only [go_sem, hu, hv, q1, decide_eq_true q2, decide_eq_true q3, decide_true, Int.reduceEq, Int.reduceToNat, Nat.reduceAdd, Nat.reduceMul, Nat.reduceEqDiff, ↓reduceIte]
    exact endW [] hQ
end Go.Proofs.Ytakajkgondadiaa
