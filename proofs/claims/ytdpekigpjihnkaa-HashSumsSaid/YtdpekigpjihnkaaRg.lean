import Derived.Test.YtdpekigpjihnkaaRf
/-! HashMuls, HashApart. -/
namespace Go.Proofs.Ytdpekigpjihnkaa
open Go.Eng Go.Vx
set_option linter.unusedSimpArgs false
set_option linter.unusedVariables false
set_option maxRecDepth 100000
theorem u64_of {n : Int} (h : @LE.le Int _ IntKind.u64.min n ∧ @LE.le Int _ n IntKind.u64.max) : ∃ m : Nat, n = (m : Int) ∧ m < 18446744073709551616 := by
  have e1 : IntKind.u64.min = 0 := by decide
  have e2 : IntKind.u64.max = 18446744073709551615 := by decide
  rw [e1, e2] at h
  exact ⟨n.toNat, by omega, by omega⟩
theorem mul_assoc_mod (a b c p : Nat) : (a * b % p) * c % p = a * (b * c % p) % p := by
  rw [Nat.mod_mul_mod, Nat.mul_mod_mod, Nat.mul_assoc]
theorem hashMuls_fn {a b c : Nat} (ha : a < 18446744073709551616) (hb : b < 18446744073709551616) (hc : c < 18446744073709551616) : Fn1 Try.prog 5 [.lit (.int .u64 a), .lit (.int .u64 b), .lit (.int .u64 c)] [] (.lit (.bool true)) [] := by
  refine fn1_of pl5 (by kernel_rfl) Try.call5 Try.func5 rfl (by kernel_rfl) rfl [.tmp 6] (by kernel_rfl) fun Q hQ => ?_
  have hpp : pr = 2305843009213693951 := rfl
  have lm : ∀ x, x % pr < 2305843009213693951 := fun x => Nat.mod_lt _ (by decide)
  have hba := hmul_fn hb ha
  rw [Nat.mul_comm b a] at hba
  have hab := lm (a * b)
  have hbc := lm (b * c)
  have hac := lm (a * c)
  have h1 : Fn1 Try.prog 15 [.lit (.int .u64 a), .lit (.int .u64 1)] [] (.lit (.int .u64 ((a % 2305843009213693951 : Nat) : Int))) [] := by
    have := hmul_fn (a := a) (b := 1) ha (by decide)
    rw [Nat.mul_one, hpp] at this
    exact this
  have h0 : Fn1 Try.prog 15 [.lit (.int .u64 a), .lit (.int .u64 0)] [] (.lit (.int .u64 0)) [] := by
    have := hmul_fn (a := a) (b := 0) ha (by decide)
    rw [Nat.mul_zero, Nat.zero_mod] at this
    exact this
  have e1 : (a : Int) % 2305843009213693951 = ((a % 2305843009213693951 : Nat) : Int) := by omega
  have e2 : ((b : Int) % 2305843009213693951 + (c : Int) % 2305843009213693951) % 2305843009213693951 = (((b + c) % 2305843009213693951 : Nat) : Int) := by omega
  have hS : (b + c) % 2305843009213693951 < 2305843009213693951 := Nat.mod_lt _ (by decide)
  have ha3 := mul_assoc_mod a b c pr
  have hdist : a * ((b + c) % 2305843009213693951) % pr = (a * b % pr + a * c % pr) % 2305843009213693951 := by
    rw [hpp, Nat.mul_mod_mod, Nat.mul_add, Nat.add_mod]
  have e3 : (((a * b % pr : Nat) : Int) + ((a * c % pr : Nat) : Int)) % 2305843009213693951 = ((a * ((b + c) % 2305843009213693951) % pr : Nat) : Int) := by rw [hdist]; omega
  have hn := lm a
  have hinv : a % 2305843009213693951 ≠ 0 → (a % 2305843009213693951) * ((a % 2305843009213693951) ^ (pr - 2) % pr) % pr = 1 := fun h => by
    rw [Nat.mul_mod_mod]
    exact inv_pr (by rw [hpp, Nat.mod_mod]; exact h)
  have hil := lm ((a % 2305843009213693951) ^ (pr - 2))
  have s1 := hmul_fn ha hb
  have s2 := hmul_fn (a := a * b % pr) (b := c) (by omega) hc
  have s3 := hmul_fn hb hc
  have s4 := hmul_fn (a := a) (b := b * c % pr) ha (by omega)
  rw [ha3] at s2
  have s5 := hmul_fn (a := a) (b := (b + c) % 2305843009213693951) ha (by omega)
  have s6 := hmul_fn ha hc
  rw [hpp] at hn
  have s7 := inverse_fn (n := a % 2305843009213693951) (by omega)
  have s8 := hmul_fn (a := a % 2305843009213693951) (b := (a % 2305843009213693951) ^ (pr - 2) % pr) (by omega) (by omega)
  simp (disch := (first | omega | (simp only [List.length_append, List.length_set, List.length_cons, List.length_nil, List.length_replicate, List.length_take, List.length_drop, List.length_map, List.length_range, true_and, and_true]; (try omega); done) | fail)) only [go_sem, Int.reduceEq, Int.reduceToNat, Nat.reduceAdd, Nat.reduceMul, Nat.reduceEqDiff, ↓reduceIte]
  refine callV0 (awake20_fn) rfl rfl ?_
  simp (disch := (first | omega | (simp only [List.length_append, List.length_set, List.length_cons, List.length_nil, List.length_replicate, List.length_take, List.length_drop, List.length_map, List.length_range, true_and, and_true]; (try omega); done) | fail)) only [go_sem, Int.reduceEq, Int.reduceToNat, Nat.reduceAdd, Nat.reduceMul, Nat.reduceEqDiff, ↓reduceIte]
  refine callV0 (s1) rfl rfl ?_
  simp (disch := (first | omega | (simp only [List.length_append, List.length_set, List.length_cons, List.length_nil, List.length_replicate, List.length_take, List.length_drop, List.length_map, List.length_range, true_and, and_true]; (try omega); done) | fail)) only [go_sem, Int.reduceEq, Int.reduceToNat, Nat.reduceAdd, Nat.reduceMul, Nat.reduceEqDiff, ↓reduceIte]
  refine callV0 (hba) rfl rfl ?_
  simp (disch := (first | omega | (simp only [List.length_append, List.length_set, List.length_cons, List.length_nil, List.length_replicate, List.length_take, List.length_drop, List.length_map, List.length_range, true_and, and_true]; (try omega); done) | fail)) only [go_sem, Int.reduceEq, Int.reduceToNat, Nat.reduceAdd, Nat.reduceMul, Nat.reduceEqDiff, ↓reduceIte]
  refine callV0 (s1) rfl rfl ?_
  simp (disch := (first | omega | (simp only [List.length_append, List.length_set, List.length_cons, List.length_nil, List.length_replicate, List.length_take, List.length_drop, List.length_map, List.length_range, true_and, and_true]; (try omega); done) | fail)) only [go_sem, Int.reduceEq, Int.reduceToNat, Nat.reduceAdd, Nat.reduceMul, Nat.reduceEqDiff, ↓reduceIte]
  refine callV0 (s2) rfl rfl ?_
  simp (disch := (first | omega | (simp only [List.length_append, List.length_set, List.length_cons, List.length_nil, List.length_replicate, List.length_take, List.length_drop, List.length_map, List.length_range, true_and, and_true]; (try omega); done) | fail)) only [go_sem, Int.reduceEq, Int.reduceToNat, Nat.reduceAdd, Nat.reduceMul, Nat.reduceEqDiff, ↓reduceIte]
  refine callV0 (s3) rfl rfl ?_
  simp (disch := (first | omega | (simp only [List.length_append, List.length_set, List.length_cons, List.length_nil, List.length_replicate, List.length_take, List.length_drop, List.length_map, List.length_range, true_and, and_true]; (try omega); done) | fail)) only [go_sem, Int.reduceEq, Int.reduceToNat, Nat.reduceAdd, Nat.reduceMul, Nat.reduceEqDiff, ↓reduceIte]
  refine callV0 (s4) rfl rfl ?_
  simp (disch := (first | omega | (simp only [List.length_append, List.length_set, List.length_cons, List.length_nil, List.length_replicate, List.length_take, List.length_drop, List.length_map, List.length_range, true_and, and_true]; (try omega); done) | fail)) only [go_sem, Int.reduceEq, Int.reduceToNat, Nat.reduceAdd, Nat.reduceMul, Nat.reduceEqDiff, ↓reduceIte]
  refine callV0 (h1) rfl rfl ?_
  simp (disch := (first | omega | (simp only [List.length_append, List.length_set, List.length_cons, List.length_nil, List.length_replicate, List.length_take, List.length_drop, List.length_map, List.length_range, true_and, and_true]; (try omega); done) | fail)) only [go_sem, e1, Int.reduceEq, Int.reduceToNat, Nat.reduceAdd, Nat.reduceMul, Nat.reduceEqDiff, ↓reduceIte]
  refine callV0 (h0) rfl rfl ?_
  simp (disch := (first | omega | (simp only [List.length_append, List.length_set, List.length_cons, List.length_nil, List.length_replicate, List.length_take, List.length_drop, List.length_map, List.length_range, true_and, and_true]; (try omega); done) | fail)) only [go_sem, e2, Int.reduceEq, Int.reduceToNat, Nat.reduceAdd, Nat.reduceMul, Nat.reduceEqDiff, ↓reduceIte]
  refine callV0 (s5) rfl rfl ?_
  simp (disch := (first | omega | (simp only [List.length_append, List.length_set, List.length_cons, List.length_nil, List.length_replicate, List.length_take, List.length_drop, List.length_map, List.length_range, true_and, and_true]; (try omega); done) | fail)) only [go_sem, Int.reduceEq, Int.reduceToNat, Nat.reduceAdd, Nat.reduceMul, Nat.reduceEqDiff, ↓reduceIte]
  refine callV0 (s1) rfl rfl ?_
  simp (disch := (first | omega | (simp only [List.length_append, List.length_set, List.length_cons, List.length_nil, List.length_replicate, List.length_take, List.length_drop, List.length_map, List.length_range, true_and, and_true]; (try omega); done) | fail)) only [go_sem, Int.reduceEq, Int.reduceToNat, Nat.reduceAdd, Nat.reduceMul, Nat.reduceEqDiff, ↓reduceIte]
  refine callV0 (s6) rfl rfl ?_
  by_cases hz : a % 2305843009213693951 = 0
  · simp (disch := (first | omega | (simp only [List.length_append, List.length_set, List.length_cons, List.length_nil, List.length_replicate, List.length_take, List.length_drop, List.length_map, List.length_range, true_and, and_true]; (try omega); done) | fail)) only [go_sem, e3, Int.reduceEq, Int.reduceToNat, Nat.reduceAdd, Nat.reduceMul, Nat.reduceEqDiff, ↓reduceIte]
    exact endW [] hQ
  · simp (disch := (first | omega | (simp only [List.length_append, List.length_set, List.length_cons, List.length_nil, List.length_replicate, List.length_take, List.length_drop, List.length_map, List.length_range, true_and, and_true]; (try omega); done) | fail)) only [go_sem, e3, Int.reduceEq, Int.reduceToNat, Nat.reduceAdd, Nat.reduceMul, Nat.reduceEqDiff, ↓reduceIte]
    refine callV0 (s7) rfl rfl ?_
    simp (disch := (first | omega | (simp only [List.length_append, List.length_set, List.length_cons, List.length_nil, List.length_replicate, List.length_take, List.length_drop, List.length_map, List.length_range, true_and, and_true]; (try omega); done) | fail)) only [go_sem, Int.reduceEq, Int.reduceToNat, Nat.reduceAdd, Nat.reduceMul, Nat.reduceEqDiff, ↓reduceIte]
    refine callV0 (s8) rfl rfl ?_
    rw [hinv hz]
    simp (disch := (first | omega | (simp only [List.length_append, List.length_set, List.length_cons, List.length_nil, List.length_replicate, List.length_take, List.length_drop, List.length_map, List.length_range, true_and, and_true]; (try omega); done) | fail)) only [go_sem, Int.reduceEq, Int.reduceToNat, Nat.reduceAdd, Nat.reduceMul, Nat.reduceEqDiff, ↓reduceIte]
    exact endW [] hQ
theorem hashApart_fn {h0 h1 k0 k1 : Nat} (H0 : h0 < 18446744073709551616) (H1 : h1 < 18446744073709551616) (K0 : k0 < 18446744073709551616) (K1 : k1 < 18446744073709551616) :
    Fn1 Try.prog 4 [.agg [.lit (.int .u64 h0), .lit (.int .u64 h1)], .agg [.lit (.int .u64 k0), .lit (.int .u64 k1)]] [] (.lit (.bool true)) [] := by
  refine fn1_of pl4 (by kernel_rfl) Try.call4 Try.func4 rfl (by kernel_rfl) rfl [.tmp 4] (by kernel_rfl) fun Q hQ => ?_
  have hpp : pr = 2305843009213693951 := rfl
  have e1 : (k0 : Int) % 2305843009213693951 = ((k0 % 2305843009213693951 : Nat) : Int) := by omega
  have e2 : (k1 : Int) % 2305843009213693951 = ((k1 % 2305843009213693951 : Nat) : Int) := by omega
  have e3 : (h0 : Int) % 2305843009213693951 = ((h0 % 2305843009213693951 : Nat) : Int) := by omega
  have e4 : (h1 : Int) % 2305843009213693951 = ((h1 % 2305843009213693951 : Nat) : Int) := by omega
  have lx : k0 % 2305843009213693951 < 2305843009213693951 := Nat.mod_lt _ (by decide)
  have ly : k1 % 2305843009213693951 < 2305843009213693951 := Nat.mod_lt _ (by decide)
  have la : h0 % 2305843009213693951 < 2305843009213693951 := Nat.mod_lt _ (by decide)
  have lb : h1 % 2305843009213693951 < 2305843009213693951 := Nat.mod_lt _ (by decide)
  generalize k0 % 2305843009213693951 = x at *
  generalize k1 % 2305843009213693951 = y at *
  generalize h0 % 2305843009213693951 = a at *
  generalize h1 % 2305843009213693951 = b at *
  simp (disch := (first | omega | (simp only [List.length_append, List.length_set, List.length_cons, List.length_nil, List.length_replicate, List.length_take, List.length_drop, List.length_map, List.length_range, true_and, and_true]; (try omega); done) | fail)) only [go_sem, Int.reduceEq, Int.reduceToNat, Nat.reduceAdd, Nat.reduceMul, Nat.reduceEqDiff, ↓reduceIte]
  refine callV0 (awake20_fn) rfl rfl ?_
  by_cases hxy : x = y
  · simp (disch := (first | omega | (simp only [List.length_append, List.length_set, List.length_cons, List.length_nil, List.length_replicate, List.length_take, List.length_drop, List.length_map, List.length_range, true_and, and_true]; (try omega); done) | fail)) only [go_sem, e1, e2, e3, e4, Int.reduceEq, Int.reduceToNat, Nat.reduceAdd, Nat.reduceMul, Nat.reduceEqDiff, ↓reduceIte]
    exact endW [] hQ
  · have lm : ∀ x, x % pr < 2305843009213693951 := fun x => Nat.mod_lt _ (by decide)
    simp (disch := (first | omega | (simp only [List.length_append, List.length_set, List.length_cons, List.length_nil, List.length_replicate, List.length_take, List.length_drop, List.length_map, List.length_range, true_and, and_true]; (try omega); done) | fail)) only [go_sem, e1, e2, e3, e4, Int.reduceEq, Int.reduceToNat, Nat.reduceAdd, Nat.reduceMul, Nat.reduceEqDiff, ↓reduceIte]
    refine callV0 (hmul_fn (a := a) (b := x) (by omega) (by omega)) rfl rfl ?_
    have lX := lm (a * x)
    have lY := lm (a * y)
    obtain ⟨d, hd⟩ : ∃ d, (x + 2305843009213693951 - y) % 2305843009213693951 = d := ⟨_, rfl⟩
    have ld : d < 2305843009213693951 := by omega
    have hd0 : d % pr ≠ 0 := by rw [hpp]; omega
    have hdy : (d + y) % 2305843009213693951 = x := by omega
    have hZ : (a * d % pr + a * y % pr) % 2305843009213693951 = a * x % pr := by
      rw [hpp, ← Nat.add_mod, ← Nat.mul_add, Nat.mul_mod, hdy, ← Nat.mod_eq_of_lt lx, Nat.mul_mod_mod, Nat.mod_mul_mod]
      simp only [Nat.mod_eq_of_lt lx]
    have lZ := lm (a * d)
    have hinv := inv_pr hd0
    have hil := lm (d ^ (pr - 2))
    have hback : (a * d % pr) * (d ^ (pr - 2) % pr) % pr = a := by
      rw [← Nat.mul_mod, Nat.mul_assoc, Nat.mul_mod, hinv, hpp, Nat.mul_one, Nat.mod_mod, Nat.mod_eq_of_lt la]
    have s5 := hmul_fn (a := a * d % pr) (b := d ^ (pr - 2) % pr) (by omega) (by omega)
    rw [hback] at s5
    have s4 := inverse_fn (n := d) (by omega)
    have s6 := hmul_fn (a := a) (b := x) (by omega) (by omega)
    have s2 := hmul_fn (a := a) (b := y) (by omega) (by omega)
    generalize a * d % pr = Z at *
    generalize a * x % pr = X at *
    generalize a * y % pr = Y at *
    generalize d ^ (pr - 2) % pr = I at *
    have f1 : ((X : Int) + (b : Int)) % 2305843009213693951 = (((X + b) % 2305843009213693951 : Nat) : Int) := by omega
    have f2 : ((Y : Int) + (b : Int)) % 2305843009213693951 = (((Y + b) % 2305843009213693951 : Nat) : Int) := by omega
    have f3 : ((((X + b) % 2305843009213693951 : Nat) : Int) + 2305843009213693951 - (((Y + b) % 2305843009213693951 : Nat) : Int)) % 2305843009213693951 = (Z : Int) := by omega
    have f4 : ((x : Int) + 2305843009213693951 - (y : Int)) % 2305843009213693951 = (d : Int) := by omega
    have f5 : ((((X + b) % 2305843009213693951 : Nat) : Int) + 2305843009213693951 - (X : Int)) % 2305843009213693951 = (b : Int) := by omega
    simp (disch := (first | omega | (simp only [List.length_append, List.length_set, List.length_cons, List.length_nil, List.length_replicate, List.length_take, List.length_drop, List.length_map, List.length_range, true_and, and_true]; (try omega); done) | fail)) only [go_sem, f1, Int.reduceEq, Int.reduceToNat, Nat.reduceAdd, Nat.reduceMul, Nat.reduceEqDiff, ↓reduceIte]
    refine callV0 (s2) rfl rfl ?_
    simp (disch := (first | omega | (simp only [List.length_append, List.length_set, List.length_cons, List.length_nil, List.length_replicate, List.length_take, List.length_drop, List.length_map, List.length_range, true_and, and_true]; (try omega); done) | fail)) only [go_sem, f1, f2, f3, f4, Int.reduceEq, Int.reduceToNat, Nat.reduceAdd, Nat.reduceMul, Nat.reduceEqDiff, ↓reduceIte]
    refine callV0 (s4) rfl rfl ?_
    simp (disch := (first | omega | (simp only [List.length_append, List.length_set, List.length_cons, List.length_nil, List.length_replicate, List.length_take, List.length_drop, List.length_map, List.length_range, true_and, and_true]; (try omega); done) | fail)) only [go_sem, Int.reduceEq, Int.reduceToNat, Nat.reduceAdd, Nat.reduceMul, Nat.reduceEqDiff, ↓reduceIte]
    refine callV0 (s5) rfl rfl ?_
    simp (disch := (first | omega | (simp only [List.length_append, List.length_set, List.length_cons, List.length_nil, List.length_replicate, List.length_take, List.length_drop, List.length_map, List.length_range, true_and, and_true]; (try omega); done) | fail)) only [go_sem, Int.reduceEq, Int.reduceToNat, Nat.reduceAdd, Nat.reduceMul, Nat.reduceEqDiff, ↓reduceIte]
    refine callV0 (s6) rfl rfl ?_
    simp (disch := (first | omega | (simp only [List.length_append, List.length_set, List.length_cons, List.length_nil, List.length_replicate, List.length_take, List.length_drop, List.length_map, List.length_range, true_and, and_true]; (try omega); done) | fail)) only [go_sem, f5, Int.reduceEq, Int.reduceToNat, Nat.reduceAdd, Nat.reduceMul, Nat.reduceEqDiff, ↓reduceIte]
    exact endW [] hQ
end Go.Proofs.Ytdpekigpjihnkaa
