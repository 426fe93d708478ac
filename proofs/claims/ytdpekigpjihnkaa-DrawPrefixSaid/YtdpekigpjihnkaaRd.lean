import Derived.Test.YtdpekigpjihnkaaRc
import Derived.Test.YtdpekigpjihnkaaRe
/-! Package hash, and the document's. -/
namespace Go.Proofs.Ytdpekigpjihnkaa
open Go.Eng Go.Vx
set_option linter.unusedSimpArgs false
set_option linter.unusedVariables false
set_option maxRecDepth 100000
theorem mul64_fn {x y : Nat} (hx : x < 18446744073709551616) (hy : y < 18446744073709551616) : Fn1 Try.prog 40 [.lit (.int .u64 x), .lit (.int .u64 y)] [] (.tup [.lit (.int .u64 ((x * y / 18446744073709551616 : Nat) : Int)), .lit (.int .u64 ((x * y % 18446744073709551616 : Nat) : Int))]) [] := by
  refine fn1_of pl40 (by kernel_rfl) Try.call40 Try.func40 rfl (by kernel_rfl) rfl [.tmp 4, .tmp 5] (by kernel_rfl) fun Q hQ => ?_
  have hhi := mul_hi hx hy
  have hlo := wrap_nat (x * y)
  rw [show (2 : Nat) ^ 64 = 18446744073709551616 from rfl] at hlo
  have hxy : (x : Int) * (y : Int) = ((x * y : Nat) : Int) := by simp
  have e1 : (x : Int) % 4294967296 = ((x % 4294967296 : Nat) : Int) := by omega
  have e2 : (x : Int) / 4294967296 = ((x / 4294967296 : Nat) : Int) := by omega
  have e3 : (y : Int) % 4294967296 = ((y % 4294967296 : Nat) : Int) := by omega
  have e4 : (y : Int) / 4294967296 = ((y / 4294967296 : Nat) : Int) := by omega
  have l1 : x % 4294967296 ≤ 4294967295 := by omega
  have l2 : x / 4294967296 ≤ 4294967295 := by omega
  have l3 : y % 4294967296 ≤ 4294967295 := by omega
  have l4 : y / 4294967296 ≤ 4294967295 := by omega
  have p1 := Nat.mul_le_mul l1 l3
  have p2 := Nat.mul_le_mul l1 l4
  have p3 := Nat.mul_le_mul l2 l3
  have p4 := Nat.mul_le_mul l2 l4
  generalize x % 4294967296 = x0 at *
  generalize x / 4294967296 = x1 at *
  generalize y % 4294967296 = y0 at *
  generalize y / 4294967296 = y1 at *
  have m1 : (x0 : Int) * (y0 : Int) = ((x0 * y0 : Nat) : Int) := by simp
  have m2 : (x1 : Int) * (y0 : Int) = ((x1 * y0 : Nat) : Int) := by simp
  have m3 : (x0 : Int) * (y1 : Int) = ((x0 * y1 : Nat) : Int) := by simp
  have m4 : (x1 : Int) * (y1 : Int) = ((x1 * y1 : Nat) : Int) := by simp
  generalize x0 * y0 = s at *
  generalize x1 * y0 = q at *
  generalize x0 * y1 = r at *
  generalize x1 * y1 = p at *
  generalize x * y = z at *
  have d1 : (s : Int) / 4294967296 = ((s / 4294967296 : Nat) : Int) := by omega
  have d2 : ((q : Int) + ((s / 4294967296 : Nat) : Int)) % 4294967296 = (((q + s / 4294967296) % 4294967296 : Nat) : Int) := by omega
  have d3 : ((q : Int) + ((s / 4294967296 : Nat) : Int)) / 4294967296 = (((q + s / 4294967296) / 4294967296 : Nat) : Int) := by omega
  have d4 : ((((q + s / 4294967296) % 4294967296 : Nat) : Int) + (r : Int)) / 4294967296 = ((((q + s / 4294967296) % 4294967296 + r) / 4294967296 : Nat) : Int) := by omega
  have d5 : (p : Int) + (((q + s / 4294967296) / 4294967296 : Nat) : Int) + ((((q + s / 4294967296) % 4294967296 + r) / 4294967296 : Nat) : Int) = ((z / 18446744073709551616 : Nat) : Int) := by omega
  have hz : z / 18446744073709551616 < 18446744073709551616 := by omega
  simp (maxSteps := 1000000) (disch := (first | omega | (simp only [List.length_append, List.length_set, List.length_cons, List.length_nil, List.length_replicate, List.length_take, List.length_drop, List.length_map, List.length_range, true_and, and_true]; (try omega); done) | fail)) only [go_sem, hxy, hlo, e1, e2, e3, e4, m1, m2, m3, m4, d1, d2, d3, d4, d5, Int.reduceEq, Int.reduceToNat, Nat.reduceAdd, Nat.reduceMul, Nat.reduceEqDiff, ↓reduceIte]
  exact endW [] hQ
theorem or_three (a b : Nat) (hb : b < 8) : a * 8 ||| b = a * 8 + b := by
  have := Nat.two_pow_add_eq_or_of_lt (i := 3) (b := b) hb a
  rw [show (2 : Nat) ^ 3 = 8 from rfl, Nat.mul_comm 8 a] at this
  exact this.symm
theorem hmul_fn {a b : Nat} (ha : a < 18446744073709551616) (hb : b < 18446744073709551616) : Fn1 Try.prog 15 [.lit (.int .u64 a), .lit (.int .u64 b)] [] (.lit (.int .u64 ((a * b % pr : Nat) : Int))) [] := by
  refine fn1_of pl15 (by kernel_rfl) Try.call15 Try.func15 rfl (by kernel_rfl) rfl [.tmp 4] (by kernel_rfl) fun Q hQ => ?_
  have e1 : (a : Int) % 2305843009213693951 = ((a % 2305843009213693951 : Nat) : Int) := by omega
  have e2 : (b : Int) % 2305843009213693951 = ((b % 2305843009213693951 : Nat) : Int) := by omega
  have hab : a * b % pr = (a % 2305843009213693951) * (b % 2305843009213693951) % 2305843009213693951 := by unfold pr; rw [← Nat.mul_mod]
  rw [hab] at hQ
  have l1 : a % 2305843009213693951 < 2305843009213693951 := Nat.mod_lt _ (by decide)
  have l2 : b % 2305843009213693951 < 2305843009213693951 := Nat.mod_lt _ (by decide)
  generalize a % 2305843009213693951 = x at *
  generalize b % 2305843009213693951 = y at *
  have hxy : x * y ≤ 2305843009213693950 * 2305843009213693950 := Nat.mul_le_mul (by omega) (by omega)
  simp (maxSteps := 1000000) (disch := (first | omega | (simp only [List.length_append, List.length_set, List.length_cons, List.length_nil, List.length_replicate, List.length_take, List.length_drop, List.length_map, List.length_range, true_and, and_true]; (try omega); done) | fail)) only [go_sem, e1, e2, Int.reduceEq, Int.reduceToNat, Nat.reduceAdd, Nat.reduceMul, Nat.reduceEqDiff, ↓reduceIte]
  refine callV0 (mul64_fn (x := x) (y := y) (by omega) (by omega)) rfl rfl ?_
  generalize x * y = z at *
  have hm := mers z
  have hhi : z / 18446744073709551616 < 288230376151711744 := by omega
  have f1 : ((z % 18446744073709551616 : Nat) : Int) % 2305843009213693952 = ((z % 2305843009213693952 : Nat) : Int) := by omega
  have f2 : ((z % 18446744073709551616 : Nat) : Int) / 2305843009213693952 = ((z % 18446744073709551616 / 2305843009213693952 : Nat) : Int) := by omega
  have f3 : ((z / 18446744073709551616 : Nat) : Int) * 8 = ((z / 18446744073709551616 * 8 : Nat) : Int) := by omega
  have f4 : bitK .or .u64 ((z / 18446744073709551616 * 8 : Nat) : Int) ((z % 18446744073709551616 / 2305843009213693952 : Nat) : Int) = ((z / 2305843009213693952 : Nat) : Int) := by
    rw [or_u64 (by omega) (by omega), or_three _ _ (by omega)]
    omega
  have f5 : (((z % 2305843009213693952 : Nat) : Int) + ((z / 2305843009213693952 : Nat) : Int)) % 2305843009213693951 = ((z % 2305843009213693951 : Nat) : Int) := by omega
  simp (maxSteps := 1000000) (disch := (first | omega | (simp only [List.length_append, List.length_set, List.length_cons, List.length_nil, List.length_replicate, List.length_take, List.length_drop, List.length_map, List.length_range, true_and, and_true]; (try omega); done) | fail)) only [go_sem, f1, f2, f3, f4, f5, Int.reduceEq, Int.reduceToNat, Nat.reduceAdd, Nat.reduceMul, Nat.reduceEqDiff, ↓reduceIte]
  exact endW [] hQ
/-- The digits' number, modulo a word. -/
theorem rest_fn {a m : Nat} (hm : 0 < m) (hm2 : m < 18446744073709551616) (ha : (dg a).length ≤ 200000) : Fn1 Try.prog 41 [DV a, .lit (.int .u64 m)] [] (.lit (.int .u64 ((a % m : Nat) : Int))) [] := by
  refine fn1_of pl41 (by kernel_rfl) Try.call41 Try.func41 rfl (by kernel_rfl) rfl [.tmp 4] (by kernel_rfl) fun Q hQ => ?_
  have hW : ∀ x ∈ [m], x < 18446744073709551616 := fun x hx => by rw [List.mem_singleton] at hx; omega
  have hwv : wv [m] = m := by simp [wv, valB]
  have hn1 : (nl [m]).length = 1 := rfl
  have hml : (dg m).length ≤ 5 := dg_len (Nat.lt_of_lt_of_le hm2 (by decide))
  have hcl : [[PV.lit (.int .u64 (m : Int))]] = (nl [m]).map (ie .u64) := rfl
  simp (maxSteps := 1000000) (disch := (first | omega | (simp only [List.length_append, List.length_set, List.length_cons, List.length_nil, List.length_replicate, List.length_take, List.length_drop, List.length_map, List.length_range, true_and, and_true]; (try omega); done) | fail)) only [go_sem, hcl, Int.reduceEq, Int.reduceToNat, Nat.reduceAdd, Nat.reduceMul, Nat.reduceEqDiff, ↓reduceIte]
  refine callW [] [0] (lof_fn (W := [m]) hW (by simp)) ?_
  rw [hwv]
  simp (maxSteps := 1000000) (disch := (first | omega | (simp only [List.length_append, List.length_set, List.length_cons, List.length_nil, List.length_replicate, List.length_take, List.length_drop, List.length_map, List.length_range, true_and, and_true]; (try omega); done) | fail)) only [go_sem, Int.reduceEq, Int.reduceToNat, Nat.reduceAdd, Nat.reduceMul, Nat.reduceEqDiff, ↓reduceIte]
  refine callV0 (ldiv_fn (a := a) (b := m) hm ha (by omega)) rfl rfl ?_
  have hrm : a % m < m := Nat.mod_lt _ hm
  have hrl := dg_mono (show a % m ≤ m by omega)
  generalize a % m = r at *
  have hal : ∀ d ∈ dg r, d < 10000 := dgB_lt (B := 10000) (by decide) r
  have hav : valB 10000 (dg r) = r := dgB_val (by decide) r
  have hnA := nl_len (dg r)
  simp (maxSteps := 1000000) (disch := (first | omega | (simp only [List.length_append, List.length_set, List.length_cons, List.length_nil, List.length_replicate, List.length_take, List.length_drop, List.length_map, List.length_range, true_and, and_true]; (try omega); done) | fail)) only [go_sem, Int.reduceEq, Int.reduceToNat, Nat.reduceAdd, Nat.reduceMul, Nat.reduceEqDiff, ↓reduceIte]
  refine LoopV_of (X := Nat) (st := fun k => ([(6, DV r), (7, .lit (.int .u64 ((valB 10000 ((dg r).drop k) : Nat) : Int))), (8, .lit (.int .i64 ((k : Int) - 1)))], []))
    (inv := fun k => k ≤ (dg r).length) (m := fun k => k) (dg r).length [] rfl (by simp (disch := (first | omega | (simp only [List.length_append, List.length_set, List.length_cons, List.length_nil, List.length_replicate, List.length_take, List.length_drop, List.length_map, List.length_range, true_and, and_true]; (try omega); done) | fail)) only [go_sem, Int.reduceEq, Int.reduceToNat, Nat.reduceAdd, Nat.reduceMul, Nat.reduceEqDiff, ↓reduceIte, true_and, and_true, and_self, List.drop_zero, List.take_length, Nat.le_refl, V.lit.injEq, Value.int.injEq, Value.bool.injEq]; try (first | omega | (simp; done) | (simp; omega))) (by rw [List.drop_of_length_le (Nat.le_refl _)]; simp only [valB]; (simp (disch := (first | omega | (simp only [List.length_append, List.length_set, List.length_cons, List.length_nil, List.length_replicate, List.length_take, List.length_drop, List.length_map, List.length_range, true_and, and_true]; (try omega); done) | fail)) only [go_sem, Int.reduceEq, Int.reduceToNat, Nat.reduceAdd, Nat.reduceMul, Nat.reduceEqDiff, ↓reduceIte, true_and, and_true, and_self, List.drop_zero, List.take_length, Nat.le_refl, V.lit.injEq, Value.int.injEq, Value.bool.injEq]; try (first | omega | (simp; done) | (simp; omega)))) (Nat.le_refl _) ?_
  intro k hk
  by_cases h : 0 < k
  · obtain ⟨i, rfl⟩ : ∃ i, k = i + 1 := ⟨k - 1, by omega⟩
    have hga := nl_get (dg r) i
    have hxa := getD_ltB (by decide) hal i
    have hdv := drop_val (l := dg r) (i := i) (B := 10000) (by omega)
    have hki : (((i + 1 : Nat) : Int) - 1).toNat = i := by omega
    have hle : valB 10000 ((dg r).drop i) ≤ r := by
      conv => rhs; rw [← hav, ← List.take_append_drop i (dg r), valB_app]
      have := Nat.le_mul_of_pos_left (valB 10000 ((dg r).drop i)) (show 0 < 10000 ^ ((dg r).take i).length from Nat.pow_pos (by decide))
      omega
    generalize (dg r).getD i 0 = x at *
    generalize valB 10000 ((dg r).drop (i + 1)) = v at *
    have hs : 10000 * (v : Int) + (x : Int) = ((x + 10000 * v : Nat) : Int) := by omega
    simp (maxSteps := 1000000) (disch := (first | omega | (simp only [List.length_append, List.length_set, List.length_cons, List.length_nil, List.length_replicate, List.length_take, List.length_drop, List.length_map, List.length_range, true_and, and_true]; (try omega); done) | fail)) only [go_sem, hki, hga, hs, Int.reduceEq, Int.reduceToNat, Nat.reduceAdd, Nat.reduceMul, Nat.reduceEqDiff, ↓reduceIte]
    refine NextV_of i [] rfl (by simp (disch := (first | omega | (simp only [List.length_append, List.length_set, List.length_cons, List.length_nil, List.length_replicate, List.length_take, List.length_drop, List.length_map, List.length_range, true_and, and_true]; (try omega); done) | fail)) only [go_sem, Int.reduceEq, Int.reduceToNat, Nat.reduceAdd, Nat.reduceMul, Nat.reduceEqDiff, ↓reduceIte, true_and, and_true, and_self, List.drop_zero, List.take_length, Nat.le_refl, V.lit.injEq, Value.int.injEq, Value.bool.injEq]; try (first | omega | (simp; done) | (simp; omega))) (by dsimp only; rw [hdv]; (simp (disch := (first | omega | (simp only [List.length_append, List.length_set, List.length_cons, List.length_nil, List.length_replicate, List.length_take, List.length_drop, List.length_map, List.length_range, true_and, and_true]; (try omega); done) | fail)) only [go_sem, Int.reduceEq, Int.reduceToNat, Nat.reduceAdd, Nat.reduceMul, Nat.reduceEqDiff, ↓reduceIte, true_and, and_true, and_self, List.drop_zero, List.take_length, Nat.le_refl, V.lit.injEq, Value.int.injEq, Value.bool.injEq]; try (first | omega | (simp; done) | (simp; omega)))) (by omega) (by omega)
  · obtain rfl : k = 0 := by omega
    rw [List.drop_zero, hav]
    simp (maxSteps := 1000000) (disch := (first | omega | (simp only [List.length_append, List.length_set, List.length_cons, List.length_nil, List.length_replicate, List.length_take, List.length_drop, List.length_map, List.length_range, true_and, and_true]; (try omega); done) | fail)) only [go_sem, Int.reduceEq, Int.reduceToNat, Nat.reduceAdd, Nat.reduceMul, Nat.reduceEqDiff, ↓reduceIte]
    exact endW [] hQ
theorem pr_lt : pr < 18446744073709551616 := by decide
theorem rmul_fn {a b : Nat} (ha : a < 18446744073709551616) (hb : b < 18446744073709551616) : Fn1 Try.prog 16 [.lit (.int .u64 a), .lit (.int .u64 b)] [] (.lit (.int .u64 ((a * b % pr : Nat) : Int))) [] := by
  refine fn1_of pl16 (by kernel_rfl) Try.call16 Try.func16 rfl (by kernel_rfl) rfl [.tmp 4] (by kernel_rfl) fun Q hQ => ?_
  have hW : ∀ z, z < 18446744073709551616 → ∀ x ∈ [z], x < 18446744073709551616 := fun z hz x hx => by rw [List.mem_singleton] at hx; omega
  have hwv : ∀ z, wv [z] = z := fun z => by simp [wv, valB]
  have hwl : ∀ z, z < 18446744073709551616 → (dg z).length ≤ 5 := fun z hz => dg_len (Nat.lt_of_lt_of_le hz (by decide))
  have hcl : ∀ m : Nat, [[PV.lit (.int .u64 (m : Int))]] = (nl [m]).map (ie .u64) := fun m => rfl
  have dab := dg_mul a b
  have da := hwl a ha
  have hna : (nl [a]).length = 1 := rfl
  have hnb : (nl [b]).length = 1 := rfl
  have db := hwl b hb
  simp (maxSteps := 1000000) (disch := (first | omega | (simp only [List.length_append, List.length_set, List.length_cons, List.length_nil, List.length_replicate, List.length_take, List.length_drop, List.length_map, List.length_range, true_and, and_true]; (try omega); done) | fail)) only [go_sem, hcl, Int.reduceEq, Int.reduceToNat, Nat.reduceAdd, Nat.reduceMul, Nat.reduceEqDiff, ↓reduceIte]
  refine callW [] [0] (lof_fn (W := [a]) (hW a ha) (by simp)) ?_
  rw [hwv]
  simp (maxSteps := 1000000) (disch := (first | omega | (simp only [List.length_append, List.length_set, List.length_cons, List.length_nil, List.length_replicate, List.length_take, List.length_drop, List.length_map, List.length_range, true_and, and_true]; (try omega); done) | fail)) only [go_sem, hcl, Int.reduceEq, Int.reduceToNat, Nat.reduceAdd, Nat.reduceMul, Nat.reduceEqDiff, ↓reduceIte]
  refine callW [] [1] (lof_fn (W := [b]) (hW b hb) (by simp)) ?_
  rw [hwv]
  simp (maxSteps := 1000000) (disch := (first | omega | (simp only [List.length_append, List.length_set, List.length_cons, List.length_nil, List.length_replicate, List.length_take, List.length_drop, List.length_map, List.length_range, true_and, and_true]; (try omega); done) | fail)) only [go_sem, Int.reduceEq, Int.reduceToNat, Nat.reduceAdd, Nat.reduceMul, Nat.reduceEqDiff, ↓reduceIte]
  refine callV0 (lmul_fn (a := a) (b := b) (by omega) (by omega)) rfl rfl ?_
  simp (maxSteps := 1000000) (disch := (first | omega | (simp only [List.length_append, List.length_set, List.length_cons, List.length_nil, List.length_replicate, List.length_take, List.length_drop, List.length_map, List.length_range, true_and, and_true]; (try omega); done) | fail)) only [go_sem, Int.reduceEq, Int.reduceToNat, Nat.reduceAdd, Nat.reduceMul, Nat.reduceEqDiff, ↓reduceIte]
  refine callV0 (rest_fn (a := a * b) (m := pr) (by decide) pr_lt (by omega)) rfl rfl ?_
  simp (maxSteps := 1000000) (disch := (first | omega | (simp only [List.length_append, List.length_set, List.length_cons, List.length_nil, List.length_replicate, List.length_take, List.length_drop, List.length_map, List.length_range, true_and, and_true]; (try omega); done) | fail)) only [go_sem, Int.reduceEq, Int.reduceToNat, Nat.reduceAdd, Nat.reduceMul, Nat.reduceEqDiff, ↓reduceIte]
  exact endW [] hQ
theorem rsum_fn {a b k : Nat} (ha : a < 18446744073709551616) (hb : b < 18446744073709551616) (hk : k < 18446744073709551616) : Fn1 Try.prog 18 [.lit (.int .u64 a), .lit (.int .u64 b), .lit (.int .u64 k)] [] (.lit (.int .u64 (((a * k + b) % pr : Nat) : Int))) [] := by
  refine fn1_of pl18 (by kernel_rfl) Try.call18 Try.func18 rfl (by kernel_rfl) rfl [.tmp 6] (by kernel_rfl) fun Q hQ => ?_
  have hW : ∀ z, z < 18446744073709551616 → ∀ x ∈ [z], x < 18446744073709551616 := fun z hz x hx => by rw [List.mem_singleton] at hx; omega
  have hwv : ∀ z, wv [z] = z := fun z => by simp [wv, valB]
  have hwl : ∀ z, z < 18446744073709551616 → (dg z).length ≤ 5 := fun z hz => dg_len (Nat.lt_of_lt_of_le hz (by decide))
  have hcl : ∀ m : Nat, [[PV.lit (.int .u64 (m : Int))]] = (nl [m]).map (ie .u64) := fun m => rfl
  have dak := dg_mul a k
  have da := hwl a ha
  have hna : (nl [a]).length = 1 := rfl
  have hnb : (nl [b]).length = 1 := rfl
  have hnk : (nl [k]).length = 1 := rfl
  have db := hwl b hb
  have dk := hwl k hk
  have dsum : (dg (a * k + b)).length ≤ 11 := dgB_len_add (by decide) (show (dg (a * k)).length ≤ 10 by omega) (show (dg b).length ≤ 10 by omega)
  simp (maxSteps := 1000000) (disch := (first | omega | (simp only [List.length_append, List.length_set, List.length_cons, List.length_nil, List.length_replicate, List.length_take, List.length_drop, List.length_map, List.length_range, true_and, and_true]; (try omega); done) | fail)) only [go_sem, hcl, Int.reduceEq, Int.reduceToNat, Nat.reduceAdd, Nat.reduceMul, Nat.reduceEqDiff, ↓reduceIte]
  refine callW [] [0] (lof_fn (W := [a]) (hW a ha) (by simp)) ?_
  rw [hwv]
  simp (maxSteps := 1000000) (disch := (first | omega | (simp only [List.length_append, List.length_set, List.length_cons, List.length_nil, List.length_replicate, List.length_take, List.length_drop, List.length_map, List.length_range, true_and, and_true]; (try omega); done) | fail)) only [go_sem, hcl, Int.reduceEq, Int.reduceToNat, Nat.reduceAdd, Nat.reduceMul, Nat.reduceEqDiff, ↓reduceIte]
  refine callW [] [1] (lof_fn (W := [k]) (hW k hk) (by simp)) ?_
  rw [hwv]
  simp (maxSteps := 1000000) (disch := (first | omega | (simp only [List.length_append, List.length_set, List.length_cons, List.length_nil, List.length_replicate, List.length_take, List.length_drop, List.length_map, List.length_range, true_and, and_true]; (try omega); done) | fail)) only [go_sem, Int.reduceEq, Int.reduceToNat, Nat.reduceAdd, Nat.reduceMul, Nat.reduceEqDiff, ↓reduceIte]
  refine callV0 (lmul_fn (a := a) (b := k) (by omega) (by omega)) rfl rfl ?_
  simp (maxSteps := 1000000) (disch := (first | omega | (simp only [List.length_append, List.length_set, List.length_cons, List.length_nil, List.length_replicate, List.length_take, List.length_drop, List.length_map, List.length_range, true_and, and_true]; (try omega); done) | fail)) only [go_sem, hcl, Int.reduceEq, Int.reduceToNat, Nat.reduceAdd, Nat.reduceMul, Nat.reduceEqDiff, ↓reduceIte]
  refine callW [] [2] (lof_fn (W := [b]) (hW b hb) (by simp)) ?_
  rw [hwv]
  simp (maxSteps := 1000000) (disch := (first | omega | (simp only [List.length_append, List.length_set, List.length_cons, List.length_nil, List.length_replicate, List.length_take, List.length_drop, List.length_map, List.length_range, true_and, and_true]; (try omega); done) | fail)) only [go_sem, Int.reduceEq, Int.reduceToNat, Nat.reduceAdd, Nat.reduceMul, Nat.reduceEqDiff, ↓reduceIte]
  refine callV0 (ladd_fn (a := a * k) (b := b) (by omega) (by omega)) rfl rfl ?_
  simp (maxSteps := 1000000) (disch := (first | omega | (simp only [List.length_append, List.length_set, List.length_cons, List.length_nil, List.length_replicate, List.length_take, List.length_drop, List.length_map, List.length_range, true_and, and_true]; (try omega); done) | fail)) only [go_sem, Int.reduceEq, Int.reduceToNat, Nat.reduceAdd, Nat.reduceMul, Nat.reduceEqDiff, ↓reduceIte]
  refine callV0 (rest_fn (a := a * k + b) (m := pr) (by decide) pr_lt (by omega)) rfl rfl ?_
  simp (maxSteps := 1000000) (disch := (first | omega | (simp only [List.length_append, List.length_set, List.length_cons, List.length_nil, List.length_replicate, List.length_take, List.length_drop, List.length_map, List.length_range, true_and, and_true]; (try omega); done) | fail)) only [go_sem, Int.reduceEq, Int.reduceToNat, Nat.reduceAdd, Nat.reduceMul, Nat.reduceEqDiff, ↓reduceIte]
  exact endW [] hQ
end Go.Proofs.Ytdpekigpjihnkaa
