import Derived.Test.YtfemchdaoihogaaDb
import Derived.Test.YtfemchdaoihogaaDc
import Derived.Test.YtfemchdaoihogaaNd
/-! Package nat: words moved up; so often a divisor away. -/
namespace Go.Proofs.Ytfemchdaoihogaa
open Go.Eng Go.Vx
set_option linter.unusedSimpArgs false
set_option linter.unusedVariables false
set_option maxRecDepth 100000
theorem mv_digit {x c s : Nat} (hs : s ≤ 63) (hx : x < 18446744073709551616) (hc : c < 2 ^ s) :
    bitK .or .u64 (c : Int) ((x * 2 ^ s % 18446744073709551616 : Nat) : Int) = ((c + x * 2 ^ s % 18446744073709551616 : Nat) : Int) ∧
    c + x * 2 ^ s % 18446744073709551616 < 18446744073709551616 ∧ x / 2 ^ (64 - s) < 2 ^ s ∧
    c + x * 2 ^ s % 18446744073709551616 + 18446744073709551616 * (x / 2 ^ (64 - s)) = c + x * 2 ^ s := by
  have e : (18446744073709551616 : Nat) = 2 ^ (64 - s) * 2 ^ s := by rw [← Nat.pow_add, show 64 - s + s = 64 by omega]
  have hp : 0 < 2 ^ s := Nat.pow_pos (by decide)
  have hq : 0 < 2 ^ (64 - s) := Nat.pow_pos (by decide)
  have h63 : 2 ^ s ≤ 2 ^ 63 := Nat.pow_le_pow_right (by decide) hs
  have hmm : x * 2 ^ s % 18446744073709551616 = x % 2 ^ (64 - s) * 2 ^ s := by rw [e, Nat.mul_mod_mul_right]
  have hl : x / 2 ^ (64 - s) < 2 ^ s := by rw [Nat.div_lt_iff_lt_mul hq, Nat.mul_comm, ← e]; exact hx
  have hm := Nat.mod_lt x hq
  have hlt : x % 2 ^ (64 - s) * 2 ^ s + 2 ^ s ≤ 18446744073709551616 := by
    have := Nat.mul_le_mul_right (2 ^ s) (show x % 2 ^ (64 - s) + 1 ≤ 2 ^ (64 - s) from hm)
    rw [Nat.add_mul, Nat.one_mul, ← e] at this
    exact this
  refine ⟨?_, by rw [hmm]; omega, hl, ?_⟩
  · have h1 := or_add (A := x % 2 ^ (64 - s)) (B := c) (s := s) (by omega) hc hs
    rw [← hmm] at h1
    rw [or_u64 (by omega) (Nat.mod_lt _ (by decide))] at *
    rw [or_u64 (Nat.mod_lt _ (by decide)) (by omega)] at h1
    rw [Nat.or_comm, Nat.add_comm]
    exact h1
  · have h := Nat.div_add_mod x (2 ^ (64 - s))
    have h2 : 18446744073709551616 * (x / 2 ^ (64 - s)) = 2 ^ (64 - s) * (x / 2 ^ (64 - s)) * 2 ^ s := by
      conv => lhs; rw [e]
      rw [Nat.mul_assoc, Nat.mul_comm (2 ^ s), ← Nat.mul_assoc]
    rw [hmm, h2, Nat.add_assoc, ← Nat.add_mul, Nat.add_comm (x % _), h]
set_option maxHeartbeats 1000000 in
theorem moved_fn {W : List Nat} {s : Nat} (hW : ∀ d ∈ W, d < 18446744073709551616) (hl : W.length ≤ 2000000) (hs : s ≤ 63) : Fn1 Try.prog 95 [.row 1 ((nl W).map (ie .u64)), .lit (.int .i64 (s : Int))] [] (.sl 0 1 0 (W.length + 1)) [some (.row 1 ((nl (fw 18446744073709551616 (W.length + 1) (valB 18446744073709551616 W * 2 ^ s))).map (ie .u64)))] := by
  refine fn1_of pl95 (by kernel_rfl) Try.call95 Try.func95 rfl (by kernel_rfl) rfl [.tmp 4] (by kernel_rfl) fun Q hQ => ?_
  have hnW := nl_len W
  simp (maxSteps := 1000000) (disch := (first | omega | (simp only [List.length_append, List.length_set, List.length_cons, List.length_nil, List.length_replicate, List.length_take, List.length_drop, List.length_map, List.length_range, true_and, and_true]; (try omega); done) | fail)) only [go_sem, Int.reduceEq, Int.reduceToNat, Nat.reduceAdd, Nat.reduceMul, Nat.reduceEqDiff, ↓reduceIte]
  refine LoopV_of (X := List Nat × Nat) (st := fun z => ([(1, .lit (.int .i64 (s : Int))), (5, .sl 0 1 0 (W.length + 1)), (12, .row 1 ((nl W).map (ie .u64))), (13, .lit (.int .i64 (W.length : Int))), (14, .lit (.int .i64 (z.1.length : Int)))], [some (.row 1 ((nl (pad (z.1 ++ [z.2]) (W.length + 1))).map (ie .u64)))]))
    (inv := fun z => z.1.length ≤ W.length ∧ (∀ d ∈ z.1, d < 18446744073709551616) ∧ z.2 < 2 ^ s ∧ valB 18446744073709551616 z.1 + 18446744073709551616 ^ z.1.length * z.2 = valB 18446744073709551616 (W.take z.1.length) * 2 ^ s)
    (m := fun z => W.length - z.1.length) ([], 0) [some 0] rfl (by simp only [pad, List.nil_append, List.length_singleton, Nat.add_sub_cancel, ← List.replicate_succ, List.singleton_append, ← nl_rep]; (simp (disch := (first | omega | (simp only [List.length_append, List.length_set, List.length_cons, List.length_nil, List.length_replicate, List.length_take, List.length_drop, List.length_map, List.length_range, true_and, and_true]; (try omega); done) | fail)) only [go_sem, Int.reduceEq, Int.reduceToNat, Nat.reduceAdd, Nat.reduceMul, Nat.reduceEqDiff, ↓reduceIte, true_and, and_true, and_self, List.drop_zero, List.take_length, Nat.le_refl, V.lit.injEq, Value.int.injEq, Value.bool.injEq]; try (first | omega | (simp; done) | (simp; omega)))) (by simp (disch := (first | omega | (simp only [List.length_append, List.length_set, List.length_cons, List.length_nil, List.length_replicate, List.length_take, List.length_drop, List.length_map, List.length_range, true_and, and_true]; (try omega); done) | fail)) only [go_sem, Int.reduceEq, Int.reduceToNat, Nat.reduceAdd, Nat.reduceMul, Nat.reduceEqDiff, ↓reduceIte, true_and, and_true, and_self, List.drop_zero, List.take_length, Nat.le_refl, V.lit.injEq, Value.int.injEq, Value.bool.injEq]; try (first | omega | (simp; done) | (simp; omega))) ⟨by simp, by simp, Nat.pow_pos (by decide), by simp [valB]⟩ ?_
  rintro ⟨L, c⟩ ⟨hi, hL, hc, hv⟩
  simp only at hi hL hc hv ⊢
  have hpl := pad_len (L := L ++ [c]) (k := W.length + 1) (by simp; omega)
  have hnp := nl_len (pad (L ++ [c]) (W.length + 1))
  by_cases h1 : L.length < W.length
  · have hg := nl_get W L.length
    have hx := getD_ltB (by decide) hW L.length
    have htk := valB_take' (B := 18446744073709551616) W L.length
    generalize W.getD L.length 0 = x at *
    obtain ⟨d1, d2, d3, d4⟩ := mv_digit hs hx hc
    have k3 : IntKind.u64.wrap ((x : Int) * 2 ^ s) = ((x * 2 ^ s % 18446744073709551616 : Nat) : Int) := wrap_mul _ _
    have k4 : (64 : Int) - (s : Int) = ((64 - s : Nat) : Int) := by omega
    have k5 : (x : Int) / 2 ^ (64 - s) = ((x / 2 ^ (64 - s) : Nat) : Int) := div_nat x (64 - s)
    have hgc : (nl (pad (L ++ [c]) (W.length + 1))).getD L.length 0 = (c : Int) := by
      rw [nl_get]
      unfold pad
      simp [List.getD_eq_getElem?_getD]
    have hlow : x * 2 ^ s % 18446744073709551616 < 18446744073709551616 := Nat.mod_lt _ (by decide)
    have hinv : valB 18446744073709551616 (L ++ [c + x * 2 ^ s % 18446744073709551616]) + 18446744073709551616 ^ (L.length + 1) * (x / 2 ^ (64 - s)) = valB 18446744073709551616 (W.take (L.length + 1)) * 2 ^ s := by
      rw [valB_snoc, htk, Nat.add_mul, ← hv, Nat.pow_succ]
      have := congrArg (18446744073709551616 ^ L.length * ·) d4
      simp only [Nat.mul_add] at this
      rw [Nat.mul_assoc, Nat.mul_assoc]
      simp only [Nat.mul_add]
      generalize 18446744073709551616 ^ L.length * (x * 2 ^ s) = a1 at *
      generalize 18446744073709551616 ^ L.length * c = a2 at *
      generalize 18446744073709551616 ^ L.length * (x * 2 ^ s % 18446744073709551616) = a3 at *
      generalize 18446744073709551616 ^ L.length * (18446744073709551616 * (x / 2 ^ (64 - s))) = a4 at *
      omega
    generalize x * 2 ^ s % 18446744073709551616 = lo at *
    generalize x / 2 ^ (64 - s) = hi' at *
    have hset : ((nl (pad (L ++ [c]) (W.length + 1))).set L.length ((c + lo : Nat) : Int)).set (L.length + 1) (hi' : Int) = nl (pad ((L ++ [c + lo]) ++ [hi']) (W.length + 1)) := by
      rw [nl_set, nl_set]
      congr 1
      unfold pad
      obtain ⟨m, hm⟩ : ∃ m, W.length + 1 - (L ++ [c]).length = m + 1 := ⟨W.length - L.length - 1, by simp; omega⟩
      have hm2 : W.length + 1 - (L ++ [c + lo] ++ [hi']).length = m := by simp at hm ⊢; omega
      rw [hm, hm2, List.replicate_succ]
      simp
    have hls : (L ++ [c + lo]).length = L.length + 1 := by simp
    have hidx : ((L.length : Int) + 1).toNat = L.length + 1 := by omega
    simp (maxSteps := 1000000) (disch := (first | omega | (simp only [List.length_append, List.length_set, List.length_cons, List.length_nil, List.length_replicate, List.length_take, List.length_drop, List.length_map, List.length_range, true_and, and_true]; (try omega); done) | fail)) only [go_sem, hg, k3, k4, k5, hgc, d1, hidx, hset, Int.reduceEq, Int.reduceToNat, Nat.reduceAdd, Nat.reduceMul, Nat.reduceEqDiff, ↓reduceIte]
    refine NextV_of (L ++ [c + lo], hi') [some 0] rfl (by rw [hls]; (simp (disch := (first | omega | (simp only [List.length_append, List.length_set, List.length_cons, List.length_nil, List.length_replicate, List.length_take, List.length_drop, List.length_map, List.length_range, true_and, and_true]; (try omega); done) | fail)) only [go_sem, Int.reduceEq, Int.reduceToNat, Nat.reduceAdd, Nat.reduceMul, Nat.reduceEqDiff, ↓reduceIte, true_and, and_true, and_self, List.drop_zero, List.take_length, Nat.le_refl, V.lit.injEq, Value.int.injEq, Value.bool.injEq]; try (first | omega | (simp; done) | (simp; omega)))) (by (simp (disch := (first | omega | (simp only [List.length_append, List.length_set, List.length_cons, List.length_nil, List.length_replicate, List.length_take, List.length_drop, List.length_map, List.length_range, true_and, and_true]; (try omega); done) | fail)) only [go_sem, Int.reduceEq, Int.reduceToNat, Nat.reduceAdd, Nat.reduceMul, Nat.reduceEqDiff, ↓reduceIte, true_and, and_true, and_self, List.drop_zero, List.take_length, Nat.le_refl, V.lit.injEq, Value.int.injEq, Value.bool.injEq]; try (first | omega | (simp; done) | (simp; omega)))) ⟨by simp only; omega, snocB hL d2, d3, by simp only [hls]; exact hinv⟩ (by simp only; omega)
  · have hLe : L.length = W.length := by omega
    have hfull : W.take L.length = W := List.take_of_length_le (by omega)
    rw [hfull] at hv
    have h63 : 2 ^ s ≤ 2 ^ 63 := Nat.pow_le_pow_right (by decide) hs
    have hpf := pad_full (L := L ++ [c]) (k := W.length + 1) (by simp; omega)
    have hval : valB 18446744073709551616 (L ++ [c]) = valB 18446744073709551616 W * 2 ^ s := by rw [valB_snoc]; exact hv
    have hfw := fw_eq (B := 18446744073709551616) (l := L ++ [c]) (k := W.length + 1) (snocB hL (by omega)) (by simp; omega) hval
    rw [hfw] at hQ
    rw [hpf]
    simp (maxSteps := 1000000) (disch := (first | omega | (simp only [List.length_append, List.length_set, List.length_cons, List.length_nil, List.length_replicate, List.length_take, List.length_drop, List.length_map, List.length_range, true_and, and_true]; (try omega); done) | fail)) only [go_sem, Int.reduceEq, Int.reduceToNat, Nat.reduceAdd, Nat.reduceMul, Nat.reduceEqDiff, ↓reduceIte]
    exact endW [some 0] hQ
end Go.Proofs.Ytfemchdaoihogaa
