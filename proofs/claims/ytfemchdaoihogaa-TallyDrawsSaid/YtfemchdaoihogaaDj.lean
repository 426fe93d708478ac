import Derived.Test.YtfemchdaoihogaaDi
/-! Package nat: moved down. -/
namespace Go.Proofs.Ytfemchdaoihogaa
open Go.Eng Go.Vx
set_option linter.unusedSimpArgs false
set_option linter.unusedVariables false
set_option maxRecDepth 100000
theorem cloneNO_fn {B : List Nat} (hB : B.length ≤ 4000000) (h : B ≠ []) : Fn1 Try.prog 55 [.row 1 ((nl B).map (ie .u64))] [] (.sl 0 1 0 B.length) [some (.row 1 ((nl B).map (ie .u64)))] := by
  refine fn1_of pl55 (by kernel_rfl) Try.call55 Try.func55 rfl (by kernel_rfl) rfl [.tmp 2] (by kernel_rfl) fun Q hQ => ?_
  have hnl := nl_len B
  have he : ((nl B).map (ie .u64)).isEmpty = false := by simp [h, nl]
  simp (maxSteps := 1000000) (disch := (first | omega | (simp only [List.length_append, List.length_set, List.length_cons, List.length_nil, List.length_replicate, List.length_take, List.length_drop, List.length_map, List.length_range, true_and, and_true]; (try omega); done) | fail)) only [go_sem, he, Int.reduceEq, Int.reduceToNat, Nat.reduceAdd, Nat.reduceMul, Nat.reduceEqDiff, ↓reduceIte]
  exact endW [some 1] hQ
theorem p0_get {N T : List Nat} {i : Nat} (h : N.length ≤ i) (hi : i < T.length) : (nl (prt [] N T)).getD i 0 = ((T.getD i 0 : Nat) : Int) := by
  rw [nl_get]
  have := prt_get (P := []) h hi
  rw [List.length_nil, Nat.zero_add] at this
  rw [this]
theorem p0_set {N T : List Nat} {x i : Nat} (hi : N.length = i) (h : i < T.length) : (nl (prt [] N T)).set i (x : Int) = nl (prt [] (N ++ [x]) T) := by
  rw [nl_set]
  have := prt_set (P := []) (N := N) (T := T) (x := x) (by omega)
  rw [List.length_nil, Nat.zero_add, hi] at this
  rw [this]
theorem p0_top {N T : List Nat} {a i : Nat} (hi : N.length = i) : (nl (prt [] (N ++ [a]) T)).getD i 0 = (a : Int) := by
  rw [nl_get]
  unfold prt
  rw [List.nil_append, List.getD_eq_getElem?_getD, List.getElem?_append_left (by simp; omega), List.getElem?_append_right (by omega), hi, Nat.sub_self]
  rfl
theorem p0_reset {N T : List Nat} {a x i : Nat} (hi : N.length = i) : (nl (prt [] (N ++ [a]) T)).set i (x : Int) = nl (prt [] (N ++ [x]) T) := by
  rw [nl_set]
  unfold prt
  rw [List.nil_append, List.nil_append, List.set_append_left (h := by simp; omega), List.set_append_right (h := by omega), hi, Nat.sub_self, List.set_cons_zero, List.length_append, List.length_append]
  rfl
theorem fw_snoc {B i v : Nat} : fw B (i + 1) v = fw B i v ++ [v / B ^ i % B] := by
  rw [fw_add]
  rfl
theorem nl_dropR (l : List Nat) (n : Nat) : (nl l).drop n = nl (l.drop n) := by simp [nl, List.map_drop]
theorem or_hi {A B k : Nat} (hB : B < 2 ^ k) (hA : A * 2 ^ k < 18446744073709551616) (hB2 : B < 18446744073709551616) : bitK .or .u64 (B : Int) ((A * 2 ^ k : Nat) : Int) = ((B + A * 2 ^ k : Nat) : Int) := by
  rw [or_u64 hB2 hA, Nat.or_comm, Nat.add_comm, ← Nat.shiftLeft_eq, ← Nat.shiftLeft_add_eq_or_of_lt hB]
theorem shr_or {w z s : Nat} (hs : s ≤ 63) (hw : w < 18446744073709551616) : bitK .or .u64 ((w / 2 ^ s : Nat) : Int) ((z * 2 ^ (64 - s) % 18446744073709551616 : Nat) : Int) = ((w / 2 ^ s + z * 2 ^ (64 - s) % 18446744073709551616 : Nat) : Int) := by
  have e : (18446744073709551616 : Nat) = 2 ^ s * 2 ^ (64 - s) := by rw [← Nat.pow_add, show s + (64 - s) = 64 by omega]
  have hm : z * 2 ^ (64 - s) % 18446744073709551616 = z % 2 ^ s * 2 ^ (64 - s) := by rw [e, Nat.mul_mod_mul_right]
  have hl : w / 2 ^ s < 2 ^ (64 - s) := by rw [Nat.div_lt_iff_lt_mul (Nat.pow_pos (by decide)), Nat.mul_comm, ← e]; exact hw
  have hlt : z * 2 ^ (64 - s) % 18446744073709551616 < 18446744073709551616 := Nat.mod_lt _ (by decide)
  rw [hm] at hlt ⊢
  exact or_hi hl hlt (Nat.lt_of_le_of_lt (Nat.div_le_self _ _) hw)
theorem shr_fn {v N : Nat} {n : Int} (hn : max 0 n = (N : Int)) (hN : N < 4611686018427387904) (hv : (wg v).length ≤ 1000000) : Fn1 Try.prog 97 [NV v, .lit (.int .i64 n)] [] (NV (v / 2 ^ N)) [] := by
  refine fn1_of pl97 (by kernel_rfl) Try.call97 Try.func97 rfl (by kernel_rfl) rfl [.cell 4 39] (by kernel_rfl) fun Q hQ => ?_
  have hnl := nl_len (wg v)
  have hq : (N : Int) / 64 = ((N / 64 : Nat) : Int) := by omega
  have hs : (N : Int) % 64 = ((N % 64 : Nat) : Int) := by omega
  by_cases h : (wg v).length ≤ N / 64
  · have h0 : v / 2 ^ N = 0 := by
      refine Nat.div_eq_of_lt (Nat.lt_of_lt_of_le (dgB_lt_pow (B := 18446744073709551616) (by decide) v) ?_)
      rw [show (18446744073709551616 : Nat) = 2 ^ 64 from rfl, ← Nat.pow_mul]
      refine Nat.pow_le_pow_right (by decide) ?_
      show 64 * (wg v).length ≤ N
      omega
    rw [h0, NV_zero] at hQ
    simp (maxSteps := 1000000) (disch := (first | omega | (simp only [List.length_append, List.length_set, List.length_cons, List.length_nil, List.length_replicate, List.length_take, List.length_drop, List.length_map, List.length_range, true_and, and_true]; (try omega); done) | fail)) only [go_sem, hn, hq, Int.reduceEq, Int.reduceToNat, Nat.reduceAdd, Nat.reduceMul, Nat.reduceEqDiff, ↓reduceIte]
    exact endW [] hQ
  · have hml : ((wg v).drop (N / 64)).length = (wg v).length - N / 64 := List.length_drop
    have hmn : (nl ((wg v).drop (N / 64))).length = (wg v).length - N / 64 := by rw [nl_len, hml]
    have hx : valB 18446744073709551616 ((wg v).drop (N / 64)) = v / 18446744073709551616 ^ (N / 64) := by
      have h1 := valB_app 18446744073709551616 ((wg v).take (N / 64)) ((wg v).drop (N / 64))
      rw [List.take_append_drop, wg_val, List.length_take, Nat.min_eq_left (by omega)] at h1
      have h2 := valB_lt (B := 18446744073709551616) (l := (wg v).take (N / 64)) (fun d hd => wg_lt v d (List.mem_of_mem_take hd))
      rw [List.length_take, Nat.min_eq_left (by omega)] at h2
      have hP : 0 < 18446744073709551616 ^ (N / 64) := Nat.pow_pos (by decide)
      conv => rhs; rw [h1]
      rw [Nat.add_mul_div_left _ _ hP, Nat.div_eq_of_lt h2, Nat.zero_add]
    have hxN : v / 2 ^ N = valB 18446744073709551616 ((wg v).drop (N / 64)) / 2 ^ (N % 64) := by
      rw [hx, Nat.div_div_eq_div_mul, show (18446744073709551616 : Nat) = 2 ^ 64 from rfl, ← Nat.pow_mul, ← Nat.pow_add, Nat.div_add_mod]
    have hWl : ∀ d ∈ (wg v).drop (N / 64), d < 18446744073709551616 := fun d hd => wg_lt v d (List.mem_of_mem_drop hd)
    have hs63 : N % 64 ≤ 63 := by omega
    rw [hxN] at hQ
    have hne : (wg v).drop (N / 64) ≠ [] := fun e => by
      rw [e] at hml; simp at hml; omega
    have hcl := cloneNO_fn (B := (wg v).drop (N / 64)) (by omega) hne
    simp (maxSteps := 1000000) (disch := (first | omega | (simp only [List.length_append, List.length_set, List.length_cons, List.length_nil, List.length_replicate, List.length_take, List.length_drop, List.length_map, List.length_range, true_and, and_true]; (try omega); done) | fail)) only [go_sem, hn, hq, hs, ← List.map_drop, nl_dropR, List.take_length, Int.reduceEq, Int.reduceToNat, Nat.reduceAdd, Nat.reduceMul, Nat.reduceEqDiff, ↓reduceIte]
    refine callF (hcl) ?_
    clear hx hxN
    generalize hW : (wg v).drop (N / 64) = W at *
    generalize N % 64 = s at *
    simp (maxSteps := 1000000) (disch := (first | omega | (simp only [List.length_append, List.length_set, List.length_cons, List.length_nil, List.length_replicate, List.length_take, List.length_drop, List.length_map, List.length_range, true_and, and_true]; (try omega); done) | fail)) only [go_sem, hn, hq, hs, Int.reduceEq, Int.reduceToNat, Nat.reduceAdd, Nat.reduceMul, Nat.reduceEqDiff, ↓reduceIte]
    have hWv := fw_of hWl
    have hxl := valB_lt hWl
    generalize hx : valB 18446744073709551616 W = x at *
    refine LoopV_of (X := Nat) (st := fun i => ([(4, .ref 0 0 0 0), (5, .sl 1 1 0 W.length), (6, .lit (.int .i64 (i : Int))), (7, .lit (.int .i64 (s : Int)))], [some (.cells [.lit (.slice none 0 0)]), some (.row 1 ((nl (prt [] (fw 18446744073709551616 i (x / 2 ^ s)) W)).map (ie .u64)))]))
      (inv := fun i => i ≤ W.length) (m := fun i => W.length - i) 0 [some 1, some 2] rfl (by simp only [fw, prt_nil, List.nil_append]; (simp (disch := (first | omega | (simp only [List.length_append, List.length_set, List.length_cons, List.length_nil, List.length_replicate, List.length_take, List.length_drop, List.length_map, List.length_range, true_and, and_true]; (try omega); done) | fail)) only [go_sem, Int.reduceEq, Int.reduceToNat, Nat.reduceAdd, Nat.reduceMul, Nat.reduceEqDiff, ↓reduceIte, true_and, and_true, and_self, List.drop_zero, List.take_length, Nat.le_refl, V.lit.injEq, Value.int.injEq, Value.bool.injEq]; try (first | omega | (simp; done) | (simp; omega)))) (by simp (disch := (first | omega | (simp only [List.length_append, List.length_set, List.length_cons, List.length_nil, List.length_replicate, List.length_take, List.length_drop, List.length_map, List.length_range, true_and, and_true]; (try omega); done) | fail)) only [go_sem, Int.reduceEq, Int.reduceToNat, Nat.reduceAdd, Nat.reduceMul, Nat.reduceEqDiff, ↓reduceIte, true_and, and_true, and_self, List.drop_zero, List.take_length, Nat.le_refl, V.lit.injEq, Value.int.injEq, Value.bool.injEq]; try (first | omega | (simp; done) | (simp; omega))) (by omega) ?_
    intro i hi
    have hF := fw_len (B := 18446744073709551616) i (x / 2 ^ s)
    have hpl := prt_len (P := []) (N := fw 18446744073709551616 i (x / 2 ^ s)) (T := W) (by omega)
    have hnp := nl_len (prt [] (fw 18446744073709551616 i (x / 2 ^ s)) W)
    rw [List.length_nil, Nat.zero_add] at hpl
    by_cases h1 : i < W.length
    · have hsn := fw_snoc (B := 18446744073709551616) (i := i) (v := x / 2 ^ s)
      have hsw := shr_word (v := x) (s := s) (i := i) hs63
      have hwi := fw_getD (B := 18446744073709551616) (k := W.length) (i := i) x h1
      rw [hWv] at hwi
      have hwl := getD_ltB (by decide) hWl i
      have hg1 := p0_get (N := fw 18446744073709551616 i (x / 2 ^ s)) (T := W) (i := i) (by omega) h1
      have hwz : ∀ j, j < W.length → W.getD j 0 = x / 18446744073709551616 ^ j % 18446744073709551616 := fun j hj => by
        have := fw_getD (B := 18446744073709551616) (k := W.length) (i := j) x hj
        rwa [hWv] at this
      rw [hsw] at hsn
      rw [← hwi] at hsn
      obtain ⟨F, hFe⟩ : ∃ F, fw 18446744073709551616 i (x / 2 ^ s) = F := ⟨_, rfl⟩
      rw [hFe] at hsn hg1 hF hpl hnp
      rw [hFe]
      obtain ⟨w, hw⟩ : ∃ w, W.getD i 0 = w := ⟨_, rfl⟩
      rw [hw] at hsn hg1 hwl
      have hset1 : ∀ y : Nat, (nl (prt [] F W)).set i (y : Int) = nl (prt [] (F ++ [y]) W) := fun y => p0_set hF h1
      have hdv : (w : Int) / 2 ^ s = ((w / 2 ^ s : Nat) : Int) := div_nat w s
      have hi1 : ((i : Int) + 1).toNat = i + 1 := by omega
      have hpl2 := fun a : Nat => prt_len (P := []) (N := F ++ [a]) (T := W) (by simp; omega)
      by_cases h2 : i + 1 < W.length
      · have hg2 := p0_top (T := W) (N := F) (a := w / 2 ^ s) (i := i) hF
        have hg3 := p0_get (N := F ++ [w / 2 ^ s]) (T := W) (i := i + 1) (by simp; omega) h2
        have hz := hwz (i + 1) h2
        rw [← hz] at hsn
        generalize W.getD (i + 1) 0 = z at *
        have k3 : IntKind.u64.wrap ((z : Int) * 2 ^ (64 - s)) = ((z * 2 ^ (64 - s) % 18446744073709551616 : Nat) : Int) := wrap_mul _ _
        have k4 : (64 : Int) - (s : Int) = ((64 - s : Nat) : Int) := by omega
        have hor := shr_or (w := w) (z := z) hs63 hwl
        have hset2 : ∀ y : Nat, (nl (prt [] (F ++ [w / 2 ^ s]) W)).set i (y : Int) = nl (prt [] (F ++ [y]) W) := fun y => p0_reset hF
        have hnp2 := nl_len (prt [] (F ++ [w / 2 ^ s]) W)
        have hpl3 := hpl2 (w / 2 ^ s)
        rw [List.length_nil, Nat.zero_add] at hpl3
        simp (maxSteps := 1000000) (disch := (first | omega | (simp only [List.length_append, List.length_set, List.length_cons, List.length_nil, List.length_replicate, List.length_take, List.length_drop, List.length_map, List.length_range, true_and, and_true]; (try omega); done) | fail)) only [go_sem, hg1, hdv, hset1, hi1, hg2, hg3, k3, k4, hor, hset2, Int.reduceEq, Int.reduceToNat, Nat.reduceAdd, Nat.reduceMul, Nat.reduceEqDiff, ↓reduceIte]
        refine NextV_of (i + 1) [some 0, some 1] rfl (by rw [hsn]; (simp (disch := (first | omega | (simp only [List.length_append, List.length_set, List.length_cons, List.length_nil, List.length_replicate, List.length_take, List.length_drop, List.length_map, List.length_range, true_and, and_true]; (try omega); done) | fail)) only [go_sem, Int.reduceEq, Int.reduceToNat, Nat.reduceAdd, Nat.reduceMul, Nat.reduceEqDiff, ↓reduceIte, true_and, and_true, and_self, List.drop_zero, List.take_length, Nat.le_refl, V.lit.injEq, Value.int.injEq, Value.bool.injEq]; try (first | omega | (simp; done) | (simp; omega)))) (by simp (disch := (first | omega | (simp only [List.length_append, List.length_set, List.length_cons, List.length_nil, List.length_replicate, List.length_take, List.length_drop, List.length_map, List.length_range, true_and, and_true]; (try omega); done) | fail)) only [go_sem, Int.reduceEq, Int.reduceToNat, Nat.reduceAdd, Nat.reduceMul, Nat.reduceEqDiff, ↓reduceIte, true_and, and_true, and_self, List.drop_zero, List.take_length, Nat.le_refl, V.lit.injEq, Value.int.injEq, Value.bool.injEq]; try (first | omega | (simp; done) | (simp; omega))) (by omega) (by omega)
      · have hz0 : x / 18446744073709551616 ^ (i + 1) = 0 := Nat.div_eq_of_lt (by rw [show i + 1 = W.length by omega]; exact hxl)
        rw [hz0, Nat.zero_mod, Nat.zero_mul, Nat.zero_mod, Nat.add_zero] at hsn
        have hnp2 := nl_len (prt [] (F ++ [w / 2 ^ s]) W)
        have hpl3 := hpl2 (w / 2 ^ s)
        rw [List.length_nil, Nat.zero_add] at hpl3
        simp (maxSteps := 1000000) (disch := (first | omega | (simp only [List.length_append, List.length_set, List.length_cons, List.length_nil, List.length_replicate, List.length_take, List.length_drop, List.length_map, List.length_range, true_and, and_true]; (try omega); done) | fail)) only [go_sem, hg1, hdv, hset1, Int.reduceEq, Int.reduceToNat, Nat.reduceAdd, Nat.reduceMul, Nat.reduceEqDiff, ↓reduceIte]
        refine NextV_of (i + 1) [some 0, some 1] rfl (by rw [hsn]; (simp (disch := (first | omega | (simp only [List.length_append, List.length_set, List.length_cons, List.length_nil, List.length_replicate, List.length_take, List.length_drop, List.length_map, List.length_range, true_and, and_true]; (try omega); done) | fail)) only [go_sem, Int.reduceEq, Int.reduceToNat, Nat.reduceAdd, Nat.reduceMul, Nat.reduceEqDiff, ↓reduceIte, true_and, and_true, and_self, List.drop_zero, List.take_length, Nat.le_refl, V.lit.injEq, Value.int.injEq, Value.bool.injEq]; try (first | omega | (simp; done) | (simp; omega)))) (by simp (disch := (first | omega | (simp only [List.length_append, List.length_set, List.length_cons, List.length_nil, List.length_replicate, List.length_take, List.length_drop, List.length_map, List.length_range, true_and, and_true]; (try omega); done) | fail)) only [go_sem, Int.reduceEq, Int.reduceToNat, Nat.reduceAdd, Nat.reduceMul, Nat.reduceEqDiff, ↓reduceIte, true_and, and_true, and_self, List.drop_zero, List.take_length, Nat.le_refl, V.lit.injEq, Value.int.injEq, Value.bool.injEq]; try (first | omega | (simp; done) | (simp; omega))) (by omega) (by omega)
    · obtain rfl : i = W.length := by omega
      have hpe : prt [] (fw 18446744073709551616 W.length (x / 2 ^ s)) W = fw 18446744073709551616 W.length (x / 2 ^ s) := by
        unfold prt
        rw [hF, List.drop_length, List.append_nil, List.nil_append]
      have hval : valB 18446744073709551616 (fw 18446744073709551616 W.length (x / 2 ^ s)) = x / 2 ^ s := by
        rw [fw_val (by decide), Nat.mod_eq_of_lt (Nat.lt_of_le_of_lt (Nat.div_le_self _ _) hxl)]
      have hlt := fw_lt (B := 18446744073709551616) (by decide) W.length (x / 2 ^ s)
      have hnf := nl_len (fw 18446744073709551616 W.length (x / 2 ^ s))
      rw [hpe]
      simp (maxSteps := 1000000) (disch := (first | omega | (simp only [List.length_append, List.length_set, List.length_cons, List.length_nil, List.length_replicate, List.length_take, List.length_drop, List.length_map, List.length_range, true_and, and_true]; (try omega); done) | fail)) only [go_sem, Int.reduceEq, Int.reduceToNat, Nat.reduceAdd, Nat.reduceMul, Nat.reduceEqDiff, ↓reduceIte]
      refine callW [] [1] (trimmed_fn (l := fw 18446744073709551616 W.length (x / 2 ^ s)) hlt (by omega)) ?_
      rw [hval]
      simp (maxSteps := 1000000) (disch := (first | omega | (simp only [List.length_append, List.length_set, List.length_cons, List.length_nil, List.length_replicate, List.length_take, List.length_drop, List.length_map, List.length_range, true_and, and_true]; (try omega); done) | fail)) only [go_sem, Int.reduceEq, Int.reduceToNat, Nat.reduceAdd, Nat.reduceMul, Nat.reduceEqDiff, ↓reduceIte]
      exact endW [] hQ
end Go.Proofs.Ytfemchdaoihogaa
