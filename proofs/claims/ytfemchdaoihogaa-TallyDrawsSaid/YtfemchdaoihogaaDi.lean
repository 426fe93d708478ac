import Derived.Test.YtfemchdaoihogaaDd
import Derived.Test.YtfemchdaoihogaaRx
/-! Package nat: divided by a word; moved down. -/
namespace Go.Proofs.Ytfemchdaoihogaa
open Go.Eng Go.Vx
set_option linter.unusedSimpArgs false
set_option linter.unusedVariables false
set_option maxRecDepth 100000
theorem split_div {B v x y : Nat} (hy : 0 < y) : (x + B * v) / y = (v % y * B + x) / y + B * (v / y) ∧ (x + B * v) % y = (v % y * B + x) % y := by
  have h := Nat.div_add_mod v y
  generalize v % y = r at *
  generalize v / y = q at *
  have e : x + B * v = y * (B * q) + (r * B + x) := by
    rw [← h, Nat.mul_add, Nat.mul_left_comm, Nat.mul_comm B r]; omega
  rw [e, Nat.mul_add_div hy, Nat.mul_add_mod, Nat.add_comm]
  exact ⟨rfl, rfl⟩
set_option maxHeartbeats 1000000 in
theorem split_fn {W : List Nat} {y : Nat} (hW : ∀ d ∈ W, d < 18446744073709551616) (hl : W.length ≤ 2000000) (hy0 : 0 < y) (hy : y < 18446744073709551616) : Fn1 Try.prog 89 [.row 1 ((nl W).map (ie .u64)), .lit (.int .u64 (y : Int))] []
    (.tup [.sl 0 1 0 W.length, .lit (.int .u64 ((valB 18446744073709551616 W % y : Nat) : Int))]) [some (.row 1 ((nl (fw 18446744073709551616 W.length (valB 18446744073709551616 W / y))).map (ie .u64)))] := by
  refine fn1_of pl89 (by kernel_rfl) Try.call89 Try.func89 rfl (by kernel_rfl) rfl [.tmp 4, .tmp 5] (by kernel_rfl) fun Q hQ => ?_
  have hnW := nl_len W
  simp (maxSteps := 1000000) (disch := (first | omega | (simp only [List.length_append, List.length_set, List.length_cons, List.length_nil, List.length_replicate, List.length_take, List.length_drop, List.length_map, List.length_range, true_and, and_true]; (try omega); done) | fail)) only [go_sem, Int.reduceEq, Int.reduceToNat, Nat.reduceAdd, Nat.reduceMul, Nat.reduceEqDiff, ↓reduceIte]
  refine LoopV_of (X := Nat × List Nat) (st := fun z => ([(0, .row 1 ((nl W).map (ie .u64))), (1, .lit (.int .u64 (y : Int))), (6, .sl 0 1 0 W.length), (7, .lit (.int .u64 ((valB 18446744073709551616 (W.drop z.1) % y : Nat) : Int))), (8, .lit (.int .i64 ((z.1 : Int) - 1)))], [some (.row 1 ((nl z.2).map (ie .u64)))]))
    (inv := fun z => z.1 ≤ W.length ∧ z.2.length = W.length ∧ (∀ d ∈ z.2, d < 18446744073709551616) ∧ valB 18446744073709551616 (z.2.drop z.1) = valB 18446744073709551616 (W.drop z.1) / y)
    (m := fun z => z.1) (W.length, List.replicate W.length 0) [some 0] rfl (by simp only [← nl_rep]; (simp (disch := (first | omega | (simp only [List.length_append, List.length_set, List.length_cons, List.length_nil, List.length_replicate, List.length_take, List.length_drop, List.length_map, List.length_range, true_and, and_true]; (try omega); done) | fail)) only [go_sem, Int.reduceEq, Int.reduceToNat, Nat.reduceAdd, Nat.reduceMul, Nat.reduceEqDiff, ↓reduceIte, true_and, and_true, and_self, List.drop_zero, List.take_length, Nat.le_refl, V.lit.injEq, Value.int.injEq, Value.bool.injEq]; try (first | omega | (simp; done) | (simp; omega)))) (by simp only [List.drop_length, show valB 18446744073709551616 [] % y = 0 from Nat.zero_mod y]; (simp (disch := (first | omega | (simp only [List.length_append, List.length_set, List.length_cons, List.length_nil, List.length_replicate, List.length_take, List.length_drop, List.length_map, List.length_range, true_and, and_true]; (try omega); done) | fail)) only [go_sem, Int.reduceEq, Int.reduceToNat, Nat.reduceAdd, Nat.reduceMul, Nat.reduceEqDiff, ↓reduceIte, true_and, and_true, and_self, List.drop_zero, List.take_length, Nat.le_refl, V.lit.injEq, Value.int.injEq, Value.bool.injEq]; try (first | omega | (simp; done) | (simp; omega))))
    ⟨Nat.le_refl _, by simp, fun d hd => by rw [List.eq_of_mem_replicate hd]; decide, by simp [valB]⟩ ?_
  rintro ⟨k, O⟩ ⟨hk, hO, hOl, hv⟩
  simp only at hk hO hOl hv ⊢
  have hnO := nl_len O
  by_cases h : 0 < k
  · obtain ⟨i, rfl⟩ : ∃ i, k = i + 1 := ⟨k - 1, by omega⟩
    have hg := nl_get W i
    have hx := getD_ltB (by decide) hW i
    have hdv := drop_val (l := W) (i := i) (B := 18446744073709551616) (by omega)
    have hki : (((i + 1 : Nat) : Int) - 1).toNat = i := by omega
    generalize W.getD i 0 = x at *
    obtain ⟨s1, s2⟩ := split_div (B := 18446744073709551616) (v := valB 18446744073709551616 (W.drop (i + 1))) (x := x) hy0
    rw [← hdv] at s1 s2
    have hr := Nat.mod_lt (valB 18446744073709551616 (W.drop (i + 1))) hy0
    generalize valB 18446744073709551616 (W.drop (i + 1)) % y = r at *
    have hd := div64_fn (hi := r) (lo := x) (y := y) hr hx hy
    have hq : (r * 18446744073709551616 + x) / y < 18446744073709551616 := by
      rw [Nat.div_lt_iff_lt_mul hy0]; omega
    rw [← s2] at hd
    generalize (r * 18446744073709551616 + x) / y = q at *
    have hset := nl_set O i q
    simp (maxSteps := 1000000) (disch := (first | omega | (simp only [List.length_append, List.length_set, List.length_cons, List.length_nil, List.length_replicate, List.length_take, List.length_drop, List.length_map, List.length_range, true_and, and_true]; (try omega); done) | fail)) only [go_sem, hki, hg, Int.reduceEq, Int.reduceToNat, Nat.reduceAdd, Nat.reduceMul, Nat.reduceEqDiff, ↓reduceIte]
    refine callV0 (hd) rfl rfl ?_
    simp (maxSteps := 1000000) (disch := (first | omega | (simp only [List.length_append, List.length_set, List.length_cons, List.length_nil, List.length_replicate, List.length_take, List.length_drop, List.length_map, List.length_range, true_and, and_true]; (try omega); done) | fail)) only [go_sem, hki, hset, Int.reduceEq, Int.reduceToNat, Nat.reduceAdd, Nat.reduceMul, Nat.reduceEqDiff, ↓reduceIte]
    refine nextW (i, O.set i q) [some 0] ⟨by simp only; omega, by simpa using hO, setB hOl hq, ?_⟩ (by simp only; omega)
    simp only
    rw [set_drop (by omega)]
    show q + 18446744073709551616 * valB 18446744073709551616 (O.drop (i + 1)) = _
    rw [hv, s1]
  · obtain rfl : k = 0 := by omega
    rw [List.drop_zero, List.drop_zero] at hv
    rw [List.drop_zero]
    have hf := fw_eq (B := 18446744073709551616) hOl hO hv
    rw [hf] at hQ
    simp (maxSteps := 1000000) (disch := (first | omega | (simp only [List.length_append, List.length_set, List.length_cons, List.length_nil, List.length_replicate, List.length_take, List.length_drop, List.length_map, List.length_range, true_and, and_true]; (try omega); done) | fail)) only [go_sem, Int.reduceEq, Int.reduceToNat, Nat.reduceAdd, Nat.reduceMul, Nat.reduceEqDiff, ↓reduceIte]
    exact endW [some 0] hQ
theorem shr_word {v s i : Nat} (hs : s ≤ 63) : v / 2 ^ s / 18446744073709551616 ^ i % 18446744073709551616 = v / 18446744073709551616 ^ i % 18446744073709551616 / 2 ^ s + v / 18446744073709551616 ^ (i + 1) % 18446744073709551616 * 2 ^ (64 - s) % 18446744073709551616 := by
  have e : (18446744073709551616 : Nat) = 2 ^ s * 2 ^ (64 - s) := by rw [← Nat.pow_add, show s + (64 - s) = 64 by omega]
  have hp : 0 < 2 ^ s := Nat.pow_pos (by decide)
  have hq : 0 < 2 ^ (64 - s) := Nat.pow_pos (by decide)
  rw [Nat.div_div_eq_div_mul, Nat.mul_comm, ← Nat.div_div_eq_div_mul, Nat.pow_succ, ← Nat.div_div_eq_div_mul]
  generalize v / 18446744073709551616 ^ i = x
  have h1 : x / 2 ^ s % 18446744073709551616 = x % (2 ^ s * 18446744073709551616) / 2 ^ s := (Nat.mod_mul_right_div_self _ _ _).symm
  have h2 : x / 18446744073709551616 % 18446744073709551616 * 2 ^ (64 - s) % 18446744073709551616 = x / 18446744073709551616 % 2 ^ s * 2 ^ (64 - s) := by
    have e3 : ∀ z : Nat, z % 18446744073709551616 * 2 ^ (64 - s) % 18446744073709551616 = z % 2 ^ s * 2 ^ (64 - s) := fun z => by
      rw [e, Nat.mul_mod_mul_right, Nat.mod_mul_right_mod]
    exact e3 _
  have h3 : x % (2 ^ s * 18446744073709551616) = x % 18446744073709551616 + 18446744073709551616 * (x / 18446744073709551616 % 2 ^ s) := by
    rw [Nat.mul_comm, Nat.mod_mul]
  rw [h1, h2, h3]
  have h4 : 18446744073709551616 * (x / 18446744073709551616 % 2 ^ s) = 2 ^ s * (x / 18446744073709551616 % 2 ^ s * 2 ^ (64 - s)) := by
    generalize x / 18446744073709551616 % 2 ^ s = z
    conv => lhs; rw [e]
    rw [Nat.mul_assoc, Nat.mul_comm (2 ^ (64 - s))]
  rw [h4, Nat.add_mul_div_left _ _ hp]
end Go.Proofs.Ytfemchdaoihogaa
