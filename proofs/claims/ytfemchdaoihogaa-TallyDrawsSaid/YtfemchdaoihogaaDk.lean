import Derived.Test.YtfemchdaoihogaaDh
import Derived.Test.YtfemchdaoihogaaDj
import Derived.Test.YtfemchdaoihogaaDg
import Derived.Test.YtfemchdaoihogaaNx
/-! Package nat: long division. -/
namespace Go.Proofs.Ytfemchdaoihogaa
open Go.Eng Go.Vx
set_option linter.unusedSimpArgs false
set_option linter.unusedVariables false
set_option maxRecDepth 100000
/-- What is moved up to begin with. -/
theorem long_begin {B a b m n t : Nat} (hB : 0 < B) (hn : 0 < n) (ha : a < B ^ m) (hb : B ^ (n - 1) ≤ b) (hnm : n ≤ m) (ht : 0 < t) : a * t / B ^ (m + 1 - n) < b * t := by
  rw [Nat.div_lt_iff_lt_mul (Nat.pow_pos hB)]
  have h1 : B ^ m = B ^ (n - 1) * B ^ (m + 1 - n) := by rw [← Nat.pow_add]; congr 1; omega
  have h2 : a < b * B ^ (m + 1 - n) := Nat.lt_of_lt_of_le ha (by rw [h1]; exact Nat.mul_le_mul_right _ hb)
  have h3 := Nat.mul_lt_mul_of_pos_right h2 ht
  rw [Nat.mul_right_comm] at h3
  exact h3
/-- The divisor moved up: its words, the highest of them not 0. -/
theorem norm_words {b : Nat} (hb : b ≠ 0) : let s := 64 - bl ((wg b).getD ((wg b).length - 1) 0)
    s ≤ 63 ∧ b * 2 ^ s < 18446744073709551616 ^ (wg b).length ∧ 18446744073709551616 ^ ((wg b).length - 1) ≤ b ∧ 9223372036854775808 * 18446744073709551616 ^ ((wg b).length - 1) ≤ b * 2 ^ s := by
  obtain ⟨h1, h2, h3⟩ := wg_top hb
  have h4 := bl_lt b
  have h5 := bl_le (n := b) hb
  have h7 := bl_le_of (n := (wg b).getD ((wg b).length - 1) 0) (k := 64) h2
  have h8 : 18446744073709551616 ^ ((wg b).length - 1) ≤ b := by
    refine Classical.byContradiction fun hn => ?_
    have := wg_len (n := b) (k := (wg b).length - 1) (by omega)
    omega
  have e : ∀ k, (18446744073709551616 : Nat) ^ k = 2 ^ (64 * k) := fun k => by rw [Nat.pow_mul]
  have h9 : 64 * ((wg b).length - 1) < bl b := (Nat.pow_lt_pow_iff_right (a := 2) (by decide)).1 (by rw [← e]; exact Nat.lt_of_le_of_lt h8 h4)
  generalize bl ((wg b).getD ((wg b).length - 1) 0) = k at *
  generalize hl : (wg b).length = l at *
  intro s
  have hs : s = 64 - k := rfl
  have hp : 0 < 2 ^ s := Nat.pow_pos (by decide)
  refine ⟨by omega, ?_, h8, ?_⟩
  · rw [e, show 64 * l = bl b + s by omega, Nat.pow_add]
    exact Nat.mul_lt_mul_of_pos_right h4 hp
  · have := Nat.mul_le_mul_right (2 ^ s) h5
    rw [← Nat.pow_add, show bl b - 1 + s = 63 + 64 * (l - 1) by omega, Nat.pow_add, ← e] at this
    exact this
set_option maxHeartbeats 2000000 in
theorem long_fn {a b : Nat} (hn : 2 ≤ (wg b).length) (hba : b ≤ a) (ha : (wg a).length ≤ 1000000) : Fn1 Try.prog 90 [NV a, NV b] [] (.tup [NV (a / b), NV (a % b), .lit (.int .i64 0)]) [] := by
  refine fn1_of pl90 (by kernel_rfl) Try.call90 Try.func90 rfl (by kernel_rfl) rfl [.cell 4 39, .cell 5 39, .tmp 6] (by kernel_rfl) fun Q hQ => ?_
  have hnA := nl_len (wg a)
  have hnB := nl_len (wg b)
  have hle : (wg b).length ≤ (wg a).length := wg_mono hba
  have hg := nl_get (wg b) ((wg b).length - 1)
  have hix : (((nl (wg b)).length : Int) - 1).toNat = (wg b).length - 1 := by omega
  have hb0 : b ≠ 0 := fun e => by rw [e, wg_zero] at hn; simp at hn
  obtain ⟨w1, w2, w3⟩ := wg_top hb0
  obtain ⟨e1, e2, e3, e4⟩ := norm_words hb0
  have hlz := lz64_fn (n := (wg b).getD ((wg b).length - 1) 0) w2
  generalize 64 - bl ((wg b).getD ((wg b).length - 1) 0) = s at *
  have hmb := moved_fn (W := wg b) (s := s) (wg_lt b) (by omega) e1
  have hma := moved_fn (W := wg a) (s := s) (wg_lt a) (by omega) e1
  rw [wg_val] at hmb hma
  simp (maxSteps := 1000000) (disch := (first | omega | (simp only [List.length_append, List.length_set, List.length_cons, List.length_nil, List.length_replicate, List.length_take, List.length_drop, List.length_map, List.length_range, true_and, and_true]; (try omega); done) | fail)) only [go_sem, hix, hg, Int.reduceEq, Int.reduceToNat, Nat.reduceAdd, Nat.reduceMul, Nat.reduceEqDiff, ↓reduceIte]
  refine callV0 (hlz) rfl rfl ?_
  simp (maxSteps := 1000000) (disch := (first | omega | (simp only [List.length_append, List.length_set, List.length_cons, List.length_nil, List.length_replicate, List.length_take, List.length_drop, List.length_map, List.length_range, true_and, and_true]; (try omega); done) | fail)) only [go_sem, Int.reduceEq, Int.reduceToNat, Nat.reduceAdd, Nat.reduceMul, Nat.reduceEqDiff, ↓reduceIte]
  refine callF (hmb) ?_
  simp (maxSteps := 1000000) (disch := (first | omega | (simp only [List.length_append, List.length_set, List.length_cons, List.length_nil, List.length_replicate, List.length_take, List.length_drop, List.length_map, List.length_range, true_and, and_true]; (try omega); done) | fail)) only [go_sem, Int.reduceEq, Int.reduceToNat, Nat.reduceAdd, Nat.reduceMul, Nat.reduceEqDiff, ↓reduceIte]
  refine callF (hma) ?_
  have hkk : (((wg a).length + 1 : Nat) : Int) - ((nl (wg b)).length : Int) = (((wg a).length + 1 - (wg b).length : Nat) : Int) := by omega
  have hfd : (fw 18446744073709551616 ((wg b).length + 1) (b * 2 ^ s)).take (wg b).length = fw 18446744073709551616 (wg b).length (b * 2 ^ s) := by rw [fw_add _ 1, List.take_left' (fw_len _ _)]
  have hlb := long_begin (B := 18446744073709551616) (a := a) (b := b) (m := (wg a).length) (n := (wg b).length) (t := 2 ^ s) (by decide) (by omega) (dgB_lt_pow (by decide) a) e3 hle (Nat.pow_pos (by decide))
  have hlf := long_first hlb
  generalize hK : (wg a).length + 1 - (wg b).length = K at *
  have hfl : (nl (fw 18446744073709551616 ((wg b).length + 1) (b * 2 ^ s))).length = (wg b).length + 1 := by rw [nl_len, fw_len]
  simp (maxSteps := 1000000) (disch := (first | omega | (simp only [List.length_append, List.length_set, List.length_cons, List.length_nil, List.length_replicate, List.length_take, List.length_drop, List.length_map, List.length_range, true_and, and_true]; (try omega); done) | fail)) only [go_sem, hkk, Int.reduceEq, Int.reduceToNat, Nat.reduceAdd, Nat.reduceMul, Nat.reduceEqDiff, ↓reduceIte]
  refine LoopV_of (X := Nat × List Nat) (st := fun z => ([(4, .ref 0 0 0 0), (5, .ref 1 0 0 0), (7, .lit (.int .i64 ((wg b).length : Int))), (8, .lit (.int .i64 (s : Int))), (9, .row 1 ((nl (fw 18446744073709551616 (wg b).length (b * 2 ^ s))).map (ie .u64))), (10, .sl 2 1 0 ((wg a).length + 1)), (11, .sl 3 1 0 K), (12, .lit (.int .i64 ((z.1 : Int) - 1)))],
      [some (.cells [.lit (.slice none 0 0)]), some (.cells [.lit (.slice none 0 0)]), some (.row 1 ((nl (fw 18446744073709551616 ((wg a).length + 1) (longV 18446744073709551616 (a * 2 ^ s) (b * 2 ^ s) z.1))).map (ie .u64))), some (.row 1 ((nl z.2).map (ie .u64)))]))
    (inv := fun z => z.1 ≤ K ∧ z.2.length = K ∧ (∀ d ∈ z.2, d < 18446744073709551616) ∧ valB 18446744073709551616 (z.2.drop z.1) = a * 2 ^ s / 18446744073709551616 ^ z.1 / (b * 2 ^ s))
    (m := fun z => z.1) (K, List.replicate K 0) [some 2, some 3, some 5, some 6] rfl (by simp only [hlf.1, ← nl_rep]; (simp (disch := (first | omega | (simp only [List.length_append, List.length_set, List.length_cons, List.length_nil, List.length_replicate, List.length_take, List.length_drop, List.length_map, List.length_range, true_and, and_true]; (try omega); done) | fail)) only [go_sem, Int.reduceEq, Int.reduceToNat, Nat.reduceAdd, Nat.reduceMul, Nat.reduceEqDiff, ↓reduceIte, true_and, and_true, and_self, List.drop_zero, List.take_length, Nat.le_refl, V.lit.injEq, Value.int.injEq, Value.bool.injEq]; try (first | omega | (simp; done) | (simp; omega)))) (by simp only [← hfd, hnB, Nat.sub_zero, ← nl_takeR, List.map_take]; (simp (disch := (first | omega | (simp only [List.length_append, List.length_set, List.length_cons, List.length_nil, List.length_replicate, List.length_take, List.length_drop, List.length_map, List.length_range, true_and, and_true]; (try omega); done) | fail)) only [go_sem, Int.reduceEq, Int.reduceToNat, Nat.reduceAdd, Nat.reduceMul, Nat.reduceEqDiff, ↓reduceIte, true_and, and_true, and_self, List.drop_zero, List.take_length, Nat.le_refl, V.lit.injEq, Value.int.injEq, Value.bool.injEq]; try (first | omega | (simp; done) | (simp; omega))))
    ⟨Nat.le_refl _, by simp, fun d hd => by rw [List.eq_of_mem_replicate hd]; decide, by simp only [hlf.2]; simp [valB]⟩ ?_
  have hD0 : 0 < b * 2 ^ s := Nat.mul_pos (by omega) (Nat.pow_pos (by decide))
  generalize hAe : a * 2 ^ s = A at *
  generalize hDe : b * 2 ^ s = D at *
  generalize hne : (wg b).length = n at *
  generalize hme : (wg a).length = m at *
  rintro ⟨k, O⟩ ⟨hk, hO, hOl, hv⟩
  simp only at hk hO hOl hv ⊢
  have hnO := nl_len O
  by_cases h : 0 < k
  · obtain ⟨i, rfl⟩ : ∃ i, k = i + 1 := ⟨k - 1, by omega⟩
    have hki : (((i + 1 : Nat) : Int) - 1) = (i : Int) := by omega
    obtain ⟨e, he⟩ : ∃ e, m + 1 = i + (n + 1 + e) := ⟨m - n - i, by omega⟩
    have hVl := long_lt (B := 18446744073709551616) (A := A) (i := i) (by decide) hD0
    have hVw : longV 18446744073709551616 A D (i + 1) / 18446744073709551616 ^ i < 18446744073709551616 ^ (n + 1) := by
      rw [Nat.pow_succ]
      exact Nat.lt_of_lt_of_le hVl (Nat.mul_le_mul_right _ (Nat.le_of_lt e2))
    have hlw := long_words (B := 18446744073709551616) (V := longV 18446744073709551616 A D (i + 1)) (i := i) (n := n) (e := e)
    have hlb2 := long_back (B := 18446744073709551616) (V := longV 18446744073709551616 A D (i + 1)) (W := longV 18446744073709551616 A D (i + 1) / 18446744073709551616 ^ i % D) (i := i) (n := n) (e := e) (by decide) hVw (Nat.lt_of_lt_of_le (Nat.mod_lt _ hD0) (Nat.le_trans (Nat.le_of_lt e2) (Nat.pow_le_pow_right (by decide) (by omega))))
    rw [long_mod (by decide), long_next (by decide)] at hlb2
    have hquo := long_quo (B := 18446744073709551616) (A := A) (D := D) (i := i) (by decide) hD0
    have hDv : valB 18446744073709551616 (fw 18446744073709551616 n D) = D := by rw [fw_val (by decide), Nat.mod_eq_of_lt e2]
    have hqlt : longV 18446744073709551616 A D (i + 1) / 18446744073709551616 ^ i / D < 18446744073709551616 := by
      rw [Nat.div_lt_iff_lt_mul hD0, Nat.mul_comm]; exact hVl
    have hdg := digit_fn (P := fw 18446744073709551616 i (longV 18446744073709551616 A D (i + 1))) (S := fw 18446744073709551616 e (longV 18446744073709551616 A D (i + 1) / 18446744073709551616 ^ i / 18446744073709551616 ^ (n + 1))) (dl := fw 18446744073709551616 n D) (U := longV 18446744073709551616 A D (i + 1) / 18446744073709551616 ^ i) (n := n)
      (fw_len _ _) (by omega) (fw_lt (by decide) _ _) (fw_lt (by decide) _ _) (by
        rw [fw_getD D (by omega)]
        have hP : 0 < 18446744073709551616 ^ (n - 1) := Nat.pow_pos (by decide)
        have h1 : 9223372036854775808 ≤ D / 18446744073709551616 ^ (n - 1) := (Nat.le_div_iff_mul_le hP).2 e4
        have h2 : D / 18446744073709551616 ^ (n - 1) < 18446744073709551616 := by
          rw [Nat.div_lt_iff_lt_mul hP, Nat.mul_comm, ← Nat.pow_succ, show (n - 1).succ = n by omega]; exact e2
        rw [Nat.mod_eq_of_lt h2]; omega) (by rw [hDv]; exact hVl) (by rw [fw_len, fw_len]; omega)
    rw [hDv, fw_len, ← hlw, hlb2, ← he] at hdg
    generalize longV 18446744073709551616 A D (i + 1) / 18446744073709551616 ^ i / D = q at *
    have hnu := nl_len (fw 18446744073709551616 (m + 1) (longV 18446744073709551616 A D (i + 1)))
    rw [fw_len] at hnu
    have hset := nl_set O i q
    have hin : ((i : Int) + (n : Int) + 1).toNat - i = n + 1 := by omega
    simp (maxSteps := 1000000) (disch := (first | omega | (simp only [List.length_append, List.length_set, List.length_cons, List.length_nil, List.length_replicate, List.length_take, List.length_drop, List.length_map, List.length_range, true_and, and_true]; (try omega); done) | fail)) only [go_sem, hki, hin, Int.reduceEq, Int.reduceToNat, Nat.reduceAdd, Nat.reduceMul, Nat.reduceEqDiff, ↓reduceIte]
    refine callW [some 2] [] (hdg) ?_
    have hms : ((nl O).map (ie .u64)).set i [PV.lit (.int .u64 (q : Int))] = (nl (O.set i q)).map (ie .u64) := by
      rw [← hset, List.map_set]; rfl
    simp (maxSteps := 1000000) (disch := (first | omega | (simp only [List.length_append, List.length_set, List.length_cons, List.length_nil, List.length_replicate, List.length_take, List.length_drop, List.length_map, List.length_range, true_and, and_true]; (try omega); done) | fail)) only [go_sem, hki, hms, Int.reduceEq, Int.reduceToNat, Nat.reduceAdd, Nat.reduceMul, Nat.reduceEqDiff, ↓reduceIte]
    refine nextW (i, O.set i q) [some 0, some 1, some 2, some 3] ⟨by simp only; omega, by simpa using hO, setB hOl hqlt, ?_⟩ (by simp only; omega)
    simp only
    rw [set_drop (by omega)]
    show q + 18446744073709551616 * valB 18446744073709551616 (O.drop (i + 1)) = _
    rw [hv, hquo]
  · obtain rfl : k = 0 := by omega
    rw [List.drop_zero, Nat.pow_zero, Nat.div_one] at hv
    have hdv := div_shift (a := a) (y := b) (s := s) (by omega)
    rw [hAe, hDe] at hdv
    rw [hdv.1] at hv
    have hll := long_last (B := 18446744073709551616) (A := A) (D := D)
    rw [hdv.2] at hll
    rw [hll]
    have hpp : 0 < 2 ^ s := Nat.pow_pos (by decide)
    have hVlt : a % b * 2 ^ s < 18446744073709551616 ^ n := by
      rw [← hdv.2]; exact Nat.lt_trans (Nat.mod_lt _ hD0) e2
    have hft : (fw 18446744073709551616 (m + 1) (a % b * 2 ^ s)).take n = fw 18446744073709551616 n (a % b * 2 ^ s) := by
      rw [show m + 1 = n + (m + 1 - n) by omega, fw_add, List.take_left' (fw_len _ _)]
    have hfv : valB 18446744073709551616 (fw 18446744073709551616 n (a % b * 2 ^ s)) = a % b * 2 ^ s := by rw [fw_val (by decide), Nat.mod_eq_of_lt hVlt]
    have hnu := nl_len (fw 18446744073709551616 (m + 1) (a % b * 2 ^ s))
    rw [fw_len] at hnu
    have hml : m ≤ 1000000 := by omega
    have ht : Fn1 Try.prog 54 [.row 1 ((nl ((fw 18446744073709551616 (m + 1) (a % b * 2 ^ s)).take n)).map (ie .u64))] [] (NV (a % b * 2 ^ s)) [] := by
      rw [hft]
      have := trimmed_fn (l := fw 18446744073709551616 n (a % b * 2 ^ s)) (fw_lt (by decide) _ _) (by rw [fw_len]; omega)
      rwa [hfv] at this
    rw [← nl_takeR, List.map_take] at ht
    have hsh := shr_fn (v := a % b * 2 ^ s) (N := s) (n := (s : Int)) (by omega) (by omega) (Nat.le_trans (wg_len hVlt) (by omega))
    rw [Nat.mul_div_cancel _ hpp] at hsh
    simp (maxSteps := 1000000) (disch := (first | omega | (simp only [List.length_append, List.length_set, List.length_cons, List.length_nil, List.length_replicate, List.length_take, List.length_drop, List.length_map, List.length_range, true_and, and_true]; (try omega); done) | fail)) only [go_sem, Int.reduceEq, Int.reduceToNat, Nat.reduceAdd, Nat.reduceMul, Nat.reduceEqDiff, ↓reduceIte]
    refine callW [] [3] (trimmed_fn (l := O) hOl (by omega)) ?_
    rw [hv]
    simp (maxSteps := 1000000) (disch := (first | omega | (simp only [List.length_append, List.length_set, List.length_cons, List.length_nil, List.length_replicate, List.length_take, List.length_drop, List.length_map, List.length_range, true_and, and_true]; (try omega); done) | fail)) only [go_sem, Nat.sub_zero, Int.reduceEq, Int.reduceToNat, Nat.reduceAdd, Nat.reduceMul, Nat.reduceEqDiff, ↓reduceIte]
    refine callW [] [2] (ht) ?_
    simp (maxSteps := 1000000) (disch := (first | omega | (simp only [List.length_append, List.length_set, List.length_cons, List.length_nil, List.length_replicate, List.length_take, List.length_drop, List.length_map, List.length_range, true_and, and_true]; (try omega); done) | fail)) only [go_sem, Int.reduceEq, Int.reduceToNat, Nat.reduceAdd, Nat.reduceMul, Nat.reduceEqDiff, ↓reduceIte]
    refine callW [] [] (hsh) ?_
    simp (maxSteps := 1000000) (disch := (first | omega | (simp only [List.length_append, List.length_set, List.length_cons, List.length_nil, List.length_replicate, List.length_take, List.length_drop, List.length_map, List.length_range, true_and, and_true]; (try omega); done) | fail)) only [go_sem, Int.reduceEq, Int.reduceToNat, Nat.reduceAdd, Nat.reduceMul, Nat.reduceEqDiff, ↓reduceIte]
    exact endW [] hQ
end Go.Proofs.Ytfemchdaoihogaa
