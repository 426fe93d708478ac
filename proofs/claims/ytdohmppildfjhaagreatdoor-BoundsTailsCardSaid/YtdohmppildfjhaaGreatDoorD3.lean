import Derived.Test.YtdohmppildfjhaaGreatDoorN1
import Derived.Test.YtdohmppildfjhaaGreatDoorE7
import Derived.Test.YtdohmppildfjhaaGreatDoorD2
import Derived.Test.YtdohmppildfjhaaGreatDoorDh
import Derived.Test.YtdohmppildfjhaaGreatDoorD1
namespace Go.Proofs.YtdohmppildfjhaaGreatDoor
open Go.Eng
set_option linter.unusedSimpArgs false
set_option linter.unusedVariables false
set_option maxRecDepth 100000
theorem bl_unique {n k : Nat} (h1 : 2 ^ (k - 1) ≤ n) (h2 : n < 2 ^ k) (hk : 0 < k) : bl n = k := by
 have h3 := bl_lt n
 have hn : n ≠ 0 := by have : 0 < 2 ^ (k - 1) := Nat.pow_pos (by decide); omega
 have h4 := bl_le (n := n) hn
 have h5 : k - 1 < bl n := (Nat.pow_lt_pow_iff_right (a := 2) (by decide)).1 (Nat.lt_of_le_of_lt h1 h3)
 have h6 : bl n - 1 < k := (Nat.pow_lt_pow_iff_right (a := 2) (by decide)).1 (Nat.lt_of_le_of_lt h4 h2)
 omega
theorem wg_top {n : Nat} (hn : n ≠ 0) : 0 < (wg n).length ∧ (wg n).getD ((wg n).length - 1) 0 < 18446744073709551616 ∧ bl n = 64 * ((wg n).length - 1) + bl ((wg n).getD ((wg n).length - 1) 0) := by
 have hne : wg n ≠ [] := fun e => hn (wg_nil.1 e)
 have hl : 0 < (wg n).length := List.length_pos_iff.2 hne
 have hlast := dgB_last (B := 18446744073709551616) (by decide) n hne
 have hget : (wg n).getD ((wg n).length - 1) 0 = (wg n).getLast hne := by
  rw [List.getLast_eq_getElem, List.getD_eq_getElem?_getD, List.getElem?_eq_getElem (by omega)]
  rfl
 have ht : (wg n).getD ((wg n).length - 1) 0 ≠ 0 := by rw [hget]; exact hlast
 have htl := getD_ltB (by decide) (wg_lt n) ((wg n).length - 1)
 refine ⟨hl, htl, ?_⟩
 generalize hm : (wg n).length - 1 = m at *
 have hlen : (wg n).length = m + 1 := by omega
 have hv : n = valB 18446744073709551616 ((wg n).take m) + 18446744073709551616 ^ m * (wg n).getD m 0 := by
  have := valB_take' (B := 18446744073709551616) (wg n) m
  rw [List.take_of_length_le (show (wg n).length ≤ m + 1 by omega), wg_val] at this
  exact this
 have hlow : valB 18446744073709551616 ((wg n).take m) < 18446744073709551616 ^ m := by
  have := valB_lt (B := 18446744073709551616) (l := (wg n).take m) (fun d hd => wg_lt n d (List.mem_of_mem_take hd))
  rwa [List.length_take, Nat.min_eq_left (by omega)] at this
 generalize (wg n).getD m 0 = t at *
 generalize valB 18446744073709551616 ((wg n).take m) = v at *
 have hp : 18446744073709551616 ^ m = 2 ^ (64 * m) := by rw [Nat.pow_mul]
 rw [hp] at hv hlow
 have hb1 := bl_lt t
 have hb2 := bl_le (n := t) ht
 have hb3 := bl_pos (n := t) ht
 refine bl_unique ?_ ?_ (by omega)
 ·
  rw [show 64 * m + bl t - 1 = 64 * m + (bl t - 1) by omega, Nat.pow_add]
  have := Nat.mul_le_mul_left (2 ^ (64 * m)) hb2
  omega
 ·
  rw [Nat.pow_add]
  have : 2 ^ (64 * m) * (t + 1) ≤ 2 ^ (64 * m) * 2 ^ bl t := Nat.mul_le_mul_left _ hb1
  rw [Nat.mul_add, Nat.mul_one] at this
  omega
theorem wg_bl {n k : Nat} (h : bl n ≤ 64 * k) : (wg n).length ≤ k := by
 refine wg_len (Nat.lt_of_lt_of_le (bl_lt n) ?_)
 rw [show (18446744073709551616 : Nat) = 2 ^ 64 from rfl, ← Nat.pow_mul]
 exact Nat.pow_le_pow_right (by decide) h
theorem pow_bl_le (a n : Nat) : bl (a ^ n) ≤ bl a * n + 1 := by
 rcases Nat.eq_zero_or_pos (a ^ n) with h | h
 ·
  rw [h, bl_zero]; omega
 ·
  have h1 := bl_le (n := a ^ n) (by omega)
  have h2 : a ^ n < 2 ^ (bl a * n + 1) := by
   rw [Nat.pow_succ, Nat.pow_mul]
   have := Nat.pow_le_pow_left (Nat.le_of_lt (bl_lt a)) n
   have h3 : 0 < (2 ^ bl a) ^ n := Nat.pow_pos (Nat.pow_pos (by decide))
   omega
  have := (Nat.pow_lt_pow_iff_right (a := 2) (by decide)).1 (Nat.lt_of_le_of_lt h1 h2)
  omega
open Go.Eng Go.Vx
theorem cloneNO_fn {B : List Nat} (hB : B.length ≤ 4000000) (h : B ≠ []) : Fn1 Tryz.prog 109 [.row 1 ((nl B).map (ie .u64))] [] (.sl 0 1 0 B.length) [some (.row 1 ((nl B).map (ie .u64)))] := by
 refine fn1N_of pl109 (by kernel_rfl) Tryz.call109 Tryz.func109 rfl (by kernel_rfl) rfl [.tmp 2] (by kernel_rfl) fun Q hQ => ?_
 have hnl := nl_len B
 have he : ((nl B).map (ie .u64)).isEmpty = false := by simp [h, nl]
 simp (maxSteps := 1000000) (disch := (first | omega | (simp only [lnA, List.length_map, List.length_range, true_and, and_true]; (try omega); done) | fail)) only [go_sem, he, Int.reduceEq, Int.reduceToNat, Nat.reduceAdd, Nat.reduceMul, Nat.reduceEqDiff, ↓reduceIte]
 exact endW [some 1] hQ
theorem p0_get {N T : List Nat} {i : Nat} (h : N.length ≤ i) (hi : i < T.length) : (nl (prt [] N T)).getD i 0 = ((T.getD i 0 : Nat) : Int) := by
 rw [nl_get]
 have := prt_get (P := []) h hi
 rw [List.length_nil, Nat.zero_add] at this
 rw [this]
theorem p0_set {N T : List Nat} {x i : Nat} (hi : N.length = i) (h : i < T.length) : (nl (prt [] N T)).set i (x : Int) = nl (prt [] (N ++ [x]) T) := by
 rw [nl_set]
 have := prt_set (P := []) (N := N) (T := T) (x := x) (by omega)
 rw [List.length_nil, Nat.zero_add, hi] at this
 rw [this]
theorem p0_top {N T : List Nat} {a i : Nat} (hi : N.length = i) : (nl (prt [] (N ++ [a]) T)).getD i 0 = (a : Int) := by
 rw [nl_get]
 unfold prt
 rw [List.nil_append, List.getD_eq_getElem?_getD, List.getElem?_append_left (by simp; omega), List.getElem?_append_right (by omega), hi, Nat.sub_self]
 rfl
theorem p0_reset {N T : List Nat} {a x i : Nat} (hi : N.length = i) : (nl (prt [] (N ++ [a]) T)).set i (x : Int) = nl (prt [] (N ++ [x]) T) := by
 rw [nl_set]
 unfold prt
 rw [List.nil_append, List.nil_append, List.set_append_left (h := by simp; omega), List.set_append_right (h := by omega), hi, Nat.sub_self, List.set_cons_zero, List.length_append, List.length_append]
 rfl
theorem fw_snoc {B i v : Nat} : fw B (i + 1) v = fw B i v ++ [v / B ^ i % B] := by
 rw [fw_add]
 rfl
theorem nl_dropR (l : List Nat) (n : Nat) : (nl l).drop n = nl (l.drop n) := by simp [nl, List.map_drop]
theorem or_hi {A B k : Nat} (hB : B < 2 ^ k) (hA : A * 2 ^ k < 18446744073709551616) (hB2 : B < 18446744073709551616) : bitK .or .u64 (B : Int) ((A * 2 ^ k : Nat) : Int) = ((B + A * 2 ^ k : Nat) : Int) := by
 rw [or_u64 hB2 hA, Nat.or_comm, Nat.add_comm, ← Nat.shiftLeft_eq, ← Nat.shiftLeft_add_eq_or_of_lt hB]
theorem shr_or {w z s : Nat} (hs : s ≤ 63) (hw : w < 18446744073709551616) : bitK .or .u64 ((w / 2 ^ s : Nat) : Int) ((z * 2 ^ (64 - s) % 18446744073709551616 : Nat) : Int) = ((w / 2 ^ s + z * 2 ^ (64 - s) % 18446744073709551616 : Nat) : Int) := by
 have e : (18446744073709551616 : Nat) = 2 ^ s * 2 ^ (64 - s) := by rw [← Nat.pow_add, show s + (64 - s) = 64 by omega]
 have hm : z * 2 ^ (64 - s) % 18446744073709551616 = z % 2 ^ s * 2 ^ (64 - s) := by rw [e, Nat.mul_mod_mul_right]
 have hl : w / 2 ^ s < 2 ^ (64 - s) := by rw [Nat.div_lt_iff_lt_mul (Nat.pow_pos (by decide)), Nat.mul_comm, ← e]; exact hw
 have hlt : z * 2 ^ (64 - s) % 18446744073709551616 < 18446744073709551616 := Nat.mod_lt _ (by decide)
 rw [hm] at hlt ⊢
 exact or_hi hl hlt (Nat.lt_of_le_of_lt (Nat.div_le_self _ _) hw)
theorem shr_fn {v N : Nat} {n : Int} (hn : max 0 n = (N : Int)) (hN : N < 9223372036854775808) (hv : (wg v).length ≤ 1000000) : Fn1 Tryz.prog 133 [NV v, .lit (.int .i64 n)] [] (NV (v / 2 ^ N)) [] := by
 refine fn1N_of pl133 (by kernel_rfl) Tryz.call133 Tryz.func133 rfl (by kernel_rfl) rfl [.cell 4 31] (by kernel_rfl) fun Q hQ => ?_
 have hnl := nl_len (wg v)
 have hq : (N : Int) / 64 = ((N / 64 : Nat) : Int) := by omega
 have hs : (N : Int) % 64 = ((N % 64 : Nat) : Int) := by omega
 by_cases h : (wg v).length ≤ N / 64
 ·
  have h0 : v / 2 ^ N = 0 := by
   refine Nat.div_eq_of_lt (Nat.lt_of_lt_of_le (dgB_lt_pow (B := 18446744073709551616) (by decide) v) ?_)
   rw [show (18446744073709551616 : Nat) = 2 ^ 64 from rfl, ← Nat.pow_mul]
   refine Nat.pow_le_pow_right (by decide) ?_
   show 64 * (wg v).length ≤ N
   omega
  rw [h0, NV_zero] at hQ
  simp (maxSteps := 1000000) (disch := (first | omega | (simp only [lnA, List.length_map, List.length_range, true_and, and_true]; (try omega); done) | fail)) only [go_sem, hn, hq, Int.reduceEq, Int.reduceToNat, Nat.reduceAdd, Nat.reduceMul, Nat.reduceEqDiff, ↓reduceIte]
  exact endW [] hQ
 ·
  have hml : ((wg v).drop (N / 64)).length = (wg v).length - N / 64 := List.length_drop
  have hmn : (nl ((wg v).drop (N / 64))).length = (wg v).length - N / 64 := by rw [nl_len, hml]
  have hx : valB 18446744073709551616 ((wg v).drop (N / 64)) = v / 18446744073709551616 ^ (N / 64) := by
   have h1 := valB_app 18446744073709551616 ((wg v).take (N / 64)) ((wg v).drop (N / 64))
   rw [List.take_append_drop, wg_val, List.length_take, Nat.min_eq_left (by omega)] at h1
   have h2 := valB_lt (B := 18446744073709551616) (l := (wg v).take (N / 64)) (fun d hd => wg_lt v d (List.mem_of_mem_take hd))
   rw [List.length_take, Nat.min_eq_left (by omega)] at h2
   have hP : 0 < 18446744073709551616 ^ (N / 64) := Nat.pow_pos (by decide)
   conv => rhs; rw [h1]
   rw [Nat.add_mul_div_left _ _ hP, Nat.div_eq_of_lt h2, Nat.zero_add]
  have hxN : v / 2 ^ N = valB 18446744073709551616 ((wg v).drop (N / 64)) / 2 ^ (N % 64) := by
   rw [hx, Nat.div_div_eq_div_mul, show (18446744073709551616 : Nat) = 2 ^ 64 from rfl, ← Nat.pow_mul, ← Nat.pow_add, Nat.div_add_mod]
  have hWl : ∀ d ∈ (wg v).drop (N / 64), d < 18446744073709551616 := fun d hd => wg_lt v d (List.mem_of_mem_drop hd)
  have hs63 : N % 64 ≤ 63 := by omega
  rw [hxN] at hQ
  have hne : (wg v).drop (N / 64) ≠ [] := fun e => by
   rw [e] at hml; simp at hml; omega
  have hcl := cloneNO_fn (B := (wg v).drop (N / 64)) (by omega) hne
  simp (maxSteps := 1000000) (disch := (first | omega | (simp only [lnA, List.length_map, List.length_range, true_and, and_true]; (try omega); done) | fail)) only [go_sem, hn, hq, hs, ← List.map_drop, nl_dropR, List.take_length, Int.reduceEq, Int.reduceToNat, Nat.reduceAdd, Nat.reduceMul, Nat.reduceEqDiff, ↓reduceIte]
  refine callF (hcl) ?_
  clear hx hxN
  generalize hW : (wg v).drop (N / 64) = W at *
  generalize N % 64 = s at *
  simp (maxSteps := 1000000) (disch := (first | omega | (simp only [lnA, List.length_map, List.length_range, true_and, and_true]; (try omega); done) | fail)) only [go_sem, hn, hq, hs, Int.reduceEq, Int.reduceToNat, Nat.reduceAdd, Nat.reduceMul, Nat.reduceEqDiff, ↓reduceIte]
  have hWv := fw_of hWl
  have hxl := valB_lt hWl
  generalize hx : valB 18446744073709551616 W = x at *
  refine LoopV_of (X := Nat) (st := fun i => ([(4, .ref 0 0 0 0), (5, .sl 1 1 0 W.length), (6, .lit (.int .i64 (i : Int))), (7, .lit (.int .i64 (s : Int)))], [some (.cells [.lit (.slice none 0 0)]), some (.row 1 ((nl (prt [] (fw 18446744073709551616 i (x / 2 ^ s)) W)).map (ie .u64)))]))
   (inv := fun i => i ≤ W.length) (m := fun i => W.length - i) 0 [some 1, some 2] rfl (by simp only [fw, prt_nil, List.nil_append]; (simp (disch := (first | omega | (simp only [lnA, List.length_map, List.length_range, true_and, and_true]; (try omega); done) | fail)) only [go_sem, Int.reduceEq, Int.reduceToNat, Nat.reduceAdd, Nat.reduceMul, Nat.reduceEqDiff, ↓reduceIte, true_and, and_true, and_self, List.drop_zero, List.take_length, Nat.le_refl, V.lit.injEq, Value.int.injEq, Value.bool.injEq]; try (first | omega | (simp; done) | (simp; omega)))) (by simp (disch := (first | omega | (simp only [lnA, List.length_map, List.length_range, true_and, and_true]; (try omega); done) | fail)) only [go_sem, Int.reduceEq, Int.reduceToNat, Nat.reduceAdd, Nat.reduceMul, Nat.reduceEqDiff, ↓reduceIte, true_and, and_true, and_self, List.drop_zero, List.take_length, Nat.le_refl, V.lit.injEq, Value.int.injEq, Value.bool.injEq]; try (first | omega | (simp; done) | (simp; omega))) (by omega) ?_
  intro i hi
  have hF := fw_len (B := 18446744073709551616) i (x / 2 ^ s)
  have hpl := prt_len (P := []) (N := fw 18446744073709551616 i (x / 2 ^ s)) (T := W) (by omega)
  have hnp := nl_len (prt [] (fw 18446744073709551616 i (x / 2 ^ s)) W)
  rw [List.length_nil, Nat.zero_add] at hpl
  by_cases h1 : i < W.length
  ·
   have hsn := fw_snoc (B := 18446744073709551616) (i := i) (v := x / 2 ^ s)
   have hsw := shr_word (v := x) (s := s) (i := i) hs63
   have hwi := fw_getD (B := 18446744073709551616) (k := W.length) (i := i) x h1
   rw [hWv] at hwi
   have hwl := getD_ltB (by decide) hWl i
   have hg1 := p0_get (N := fw 18446744073709551616 i (x / 2 ^ s)) (T := W) (i := i) (by omega) h1
   have hwz : ∀ j, j < W.length → W.getD j 0 = x / 18446744073709551616 ^ j % 18446744073709551616 := fun j hj => by
    have := fw_getD (B := 18446744073709551616) (k := W.length) (i := j) x hj
    rwa [hWv] at this
   rw [hsw] at hsn
   rw [← hwi] at hsn
   obtain ⟨F, hFe⟩ : ∃ F, fw 18446744073709551616 i (x / 2 ^ s) = F := ⟨_, rfl⟩
   rw [hFe] at hsn hg1 hF hpl hnp
   rw [hFe]
   obtain ⟨w, hw⟩ : ∃ w, W.getD i 0 = w := ⟨_, rfl⟩
   rw [hw] at hsn hg1 hwl
   have hset1 : ∀ y : Nat, (nl (prt [] F W)).set i (y : Int) = nl (prt [] (F ++ [y]) W) := fun y => p0_set hF h1
   have hdv : (w : Int) / 2 ^ s = ((w / 2 ^ s : Nat) : Int) := div_nat w s
   have hi1 : ((i : Int) + 1).toNat = i + 1 := by omega
   have hpl2 := fun a : Nat => prt_len (P := []) (N := F ++ [a]) (T := W) (by simp; omega)
   by_cases h2 : i + 1 < W.length
   ·
    have hg2 := p0_top (T := W) (N := F) (a := w / 2 ^ s) (i := i) hF
    have hg3 := p0_get (N := F ++ [w / 2 ^ s]) (T := W) (i := i + 1) (by simp; omega) h2
    have hz := hwz (i + 1) h2
    rw [← hz] at hsn
    generalize W.getD (i + 1) 0 = z at *
    have k3 : IntKind.u64.wrap ((z : Int) * 2 ^ (64 - s)) = ((z * 2 ^ (64 - s) % 18446744073709551616 : Nat) : Int) := wrap_mul _ _
    have k4 : (64 : Int) - (s : Int) = ((64 - s : Nat) : Int) := by omega
    have hor := shr_or (w := w) (z := z) hs63 hwl
    have hset2 : ∀ y : Nat, (nl (prt [] (F ++ [w / 2 ^ s]) W)).set i (y : Int) = nl (prt [] (F ++ [y]) W) := fun y => p0_reset hF
    have hnp2 := nl_len (prt [] (F ++ [w / 2 ^ s]) W)
    have hpl3 := hpl2 (w / 2 ^ s)
    rw [List.length_nil, Nat.zero_add] at hpl3
    simp (maxSteps := 1000000) (disch := (first | omega | (simp only [lnA, List.length_map, List.length_range, true_and, and_true]; (try omega); done) | fail)) only [go_sem, hg1, hdv, hset1, hi1, hg2, hg3, k3, k4, hor, hset2, Int.reduceEq, Int.reduceToNat, Nat.reduceAdd, Nat.reduceMul, Nat.reduceEqDiff, ↓reduceIte]
    refine NextV_of (i + 1) [some 0, some 1] rfl (by rw [hsn]; (simp (disch := (first | omega | (simp only [lnA, List.length_map, List.length_range, true_and, and_true]; (try omega); done) | fail)) only [go_sem, Int.reduceEq, Int.reduceToNat, Nat.reduceAdd, Nat.reduceMul, Nat.reduceEqDiff, ↓reduceIte, true_and, and_true, and_self, List.drop_zero, List.take_length, Nat.le_refl, V.lit.injEq, Value.int.injEq, Value.bool.injEq]; try (first | omega | (simp; done) | (simp; omega)))) (by simp (disch := (first | omega | (simp only [lnA, List.length_map, List.length_range, true_and, and_true]; (try omega); done) | fail)) only [go_sem, Int.reduceEq, Int.reduceToNat, Nat.reduceAdd, Nat.reduceMul, Nat.reduceEqDiff, ↓reduceIte, true_and, and_true, and_self, List.drop_zero, List.take_length, Nat.le_refl, V.lit.injEq, Value.int.injEq, Value.bool.injEq]; try (first | omega | (simp; done) | (simp; omega))) (by omega) (by omega)
   ·
    have hz0 : x / 18446744073709551616 ^ (i + 1) = 0 := Nat.div_eq_of_lt (by rw [show i + 1 = W.length by omega]; exact hxl)
    rw [hz0, Nat.zero_mod, Nat.zero_mul, Nat.zero_mod, Nat.add_zero] at hsn
    have hnp2 := nl_len (prt [] (F ++ [w / 2 ^ s]) W)
    have hpl3 := hpl2 (w / 2 ^ s)
    rw [List.length_nil, Nat.zero_add] at hpl3
    simp (maxSteps := 1000000) (disch := (first | omega | (simp only [lnA, List.length_map, List.length_range, true_and, and_true]; (try omega); done) | fail)) only [go_sem, hg1, hdv, hset1, Int.reduceEq, Int.reduceToNat, Nat.reduceAdd, Nat.reduceMul, Nat.reduceEqDiff, ↓reduceIte]
    refine NextV_of (i + 1) [some 0, some 1] rfl (by rw [hsn]; (simp (disch := (first | omega | (simp only [lnA, List.length_map, List.length_range, true_and, and_true]; (try omega); done) | fail)) only [go_sem, Int.reduceEq, Int.reduceToNat, Nat.reduceAdd, Nat.reduceMul, Nat.reduceEqDiff, ↓reduceIte, true_and, and_true, and_self, List.drop_zero, List.take_length, Nat.le_refl, V.lit.injEq, Value.int.injEq, Value.bool.injEq]; try (first | omega | (simp; done) | (simp; omega)))) (by simp (disch := (first | omega | (simp only [lnA, List.length_map, List.length_range, true_and, and_true]; (try omega); done) | fail)) only [go_sem, Int.reduceEq, Int.reduceToNat, Nat.reduceAdd, Nat.reduceMul, Nat.reduceEqDiff, ↓reduceIte, true_and, and_true, and_self, List.drop_zero, List.take_length, Nat.le_refl, V.lit.injEq, Value.int.injEq, Value.bool.injEq]; try (first | omega | (simp; done) | (simp; omega))) (by omega) (by omega)
  ·
   obtain rfl : i = W.length := by omega
   have hpe : prt [] (fw 18446744073709551616 W.length (x / 2 ^ s)) W = fw 18446744073709551616 W.length (x / 2 ^ s) := by
    unfold prt
    rw [hF, List.drop_length, List.append_nil, List.nil_append]
   have hval : valB 18446744073709551616 (fw 18446744073709551616 W.length (x / 2 ^ s)) = x / 2 ^ s := by
    rw [fw_val (by decide), Nat.mod_eq_of_lt (Nat.lt_of_le_of_lt (Nat.div_le_self _ _) hxl)]
   have hlt := fw_lt (B := 18446744073709551616) (by decide) W.length (x / 2 ^ s)
   have hnf := nl_len (fw 18446744073709551616 W.length (x / 2 ^ s))
   rw [hpe]
   refine runW ?_
   refine callW [] [1] (trimmed_fn (l := fw 18446744073709551616 W.length (x / 2 ^ s)) hlt (by omega)) ?_
   rw [hval]
   refine runW ?_
   exact endW [] hQ
theorem long_begin {B a b m n t : Nat} (hB : 0 < B) (hn : 0 < n) (ha : a < B ^ m) (hb : B ^ (n - 1) ≤ b) (hnm : n ≤ m) (ht : 0 < t) : a * t / B ^ (m + 1 - n) < b * t := by
 rw [Nat.div_lt_iff_lt_mul (Nat.pow_pos hB)]
 have h1 : B ^ m = B ^ (n - 1) * B ^ (m + 1 - n) := by rw [← Nat.pow_add]; congr 1; omega
 have h2 : a < b * B ^ (m + 1 - n) := Nat.lt_of_lt_of_le ha (by rw [h1]; exact Nat.mul_le_mul_right _ hb)
 have h3 := Nat.mul_lt_mul_of_pos_right h2 ht
 rw [Nat.mul_right_comm] at h3
 exact h3
theorem norm_words {b : Nat} (hb : b ≠ 0) : let s := 64 - bl ((wg b).getD ((wg b).length - 1) 0)
  s ≤ 63 ∧ b * 2 ^ s < 18446744073709551616 ^ (wg b).length ∧ 18446744073709551616 ^ ((wg b).length - 1) ≤ b ∧ 9223372036854775808 * 18446744073709551616 ^ ((wg b).length - 1) ≤ b * 2 ^ s := by
 obtain ⟨h1, h2, h3⟩ := wg_top hb
 have h4 := bl_lt b
 have h5 := bl_le (n := b) hb
 have h7 := bl_le_of (n := (wg b).getD ((wg b).length - 1) 0) (k := 64) h2
 have h8 : 18446744073709551616 ^ ((wg b).length - 1) ≤ b := by
  refine Classical.byContradiction fun hn => ?_
  have := wg_len (n := b) (k := (wg b).length - 1) (by omega)
  omega
 have e : ∀ k, (18446744073709551616 : Nat) ^ k = 2 ^ (64 * k) := fun k => by rw [Nat.pow_mul]
 have h9 : 64 * ((wg b).length - 1) < bl b := (Nat.pow_lt_pow_iff_right (a := 2) (by decide)).1 (by rw [← e]; exact Nat.lt_of_le_of_lt h8 h4)
 generalize bl ((wg b).getD ((wg b).length - 1) 0) = k at *
 generalize hl : (wg b).length = l at *
 intro s
 have hs : s = 64 - k := rfl
 have hp : 0 < 2 ^ s := Nat.pow_pos (by decide)
 refine ⟨by omega, ?_, h8, ?_⟩
 ·
  rw [e, show 64 * l = bl b + s by omega, Nat.pow_add]
  exact Nat.mul_lt_mul_of_pos_right h4 hp
 ·
  have := Nat.mul_le_mul_right (2 ^ s) h5
  rw [← Nat.pow_add, show bl b - 1 + s = 63 + 64 * (l - 1) by omega, Nat.pow_add, ← e] at this
  exact this
set_option maxHeartbeats 2000000 in
theorem long_fn {a b : Nat} (hn : 2 ≤ (wg b).length) (hba : b ≤ a) (ha : (wg a).length ≤ 1000000) : Fn1 Tryz.prog 110 [NV a, NV b] [] (.tup [NV (a / b), NV (a % b), .lit (.int .i64 0)]) [] := by
 refine fn1N_of pl110 (by kernel_rfl) Tryz.call110 Tryz.func110 rfl (by kernel_rfl) rfl [.cell 4 31, .cell 5 31, .tmp 6] (by kernel_rfl) fun Q hQ => ?_
 have hnA := nl_len (wg a)
 have hnB := nl_len (wg b)
 have hle : (wg b).length ≤ (wg a).length := wg_mono hba
 have hg := nl_get (wg b) ((wg b).length - 1)
 have hix : (((nl (wg b)).length : Int) - 1).toNat = (wg b).length - 1 := by omega
 have hb0 : b ≠ 0 := fun e => by rw [e, wg_zero] at hn; simp at hn
 obtain ⟨w1, w2, w3⟩ := wg_top hb0
 obtain ⟨e1, e2, e3, e4⟩ := norm_words hb0
 have hlz := lz64_fn (n := (wg b).getD ((wg b).length - 1) 0) w2
 generalize 64 - bl ((wg b).getD ((wg b).length - 1) 0) = s at *
 have hmb := moved_fn (W := wg b) (s := s) (wg_lt b) (by omega) e1
 have hma := moved_fn (W := wg a) (s := s) (wg_lt a) (by omega) e1
 rw [wg_val] at hmb hma
 simp (maxSteps := 1000000) (disch := (first | omega | (simp only [lnA, List.length_map, List.length_range, true_and, and_true]; (try omega); done) | fail)) only [go_sem, hix, hg, Int.reduceEq, Int.reduceToNat, Nat.reduceAdd, Nat.reduceMul, Nat.reduceEqDiff, ↓reduceIte]
 refine callV0 (hlz) rfl rfl ?_
 refine runW ?_
 refine callF (hmb) ?_
 refine runW ?_
 refine callF (hma) ?_
 have hkk : (((wg a).length + 1 : Nat) : Int) - ((nl (wg b)).length : Int) = (((wg a).length + 1 - (wg b).length : Nat) : Int) := by omega
 have hfd : (fw 18446744073709551616 ((wg b).length + 1) (b * 2 ^ s)).take (wg b).length = fw 18446744073709551616 (wg b).length (b * 2 ^ s) := by rw [fw_add _ 1, List.take_left' (fw_len _ _)]
 have hlb := long_begin (B := 18446744073709551616) (a := a) (b := b) (m := (wg a).length) (n := (wg b).length) (t := 2 ^ s) (by decide) (by omega) (dgB_lt_pow (by decide) a) e3 hle (Nat.pow_pos (by decide))
 have hlf := long_first hlb
 generalize hK : (wg a).length + 1 - (wg b).length = K at *
 have hfl : (nl (fw 18446744073709551616 ((wg b).length + 1) (b * 2 ^ s))).length = (wg b).length + 1 := by rw [nl_len, fw_len]
 simp (maxSteps := 1000000) (disch := (first | omega | (simp only [lnA, List.length_map, List.length_range, true_and, and_true]; (try omega); done) | fail)) only [go_sem, hkk, Int.reduceEq, Int.reduceToNat, Nat.reduceAdd, Nat.reduceMul, Nat.reduceEqDiff, ↓reduceIte]
 refine LoopV_of (X := Nat × List Nat) (st := fun z => ([(4, .ref 0 0 0 0), (5, .ref 1 0 0 0), (7, .lit (.int .i64 ((wg b).length : Int))), (8, .lit (.int .i64 (s : Int))), (9, .row 1 ((nl (fw 18446744073709551616 (wg b).length (b * 2 ^ s))).map (ie .u64))), (10, .sl 2 1 0 ((wg a).length + 1)), (11, .sl 3 1 0 K), (12, .lit (.int .i64 ((z.1 : Int) - 1)))],
   [some (.cells [.lit (.slice none 0 0)]), some (.cells [.lit (.slice none 0 0)]), some (.row 1 ((nl (fw 18446744073709551616 ((wg a).length + 1) (longV 18446744073709551616 (a * 2 ^ s) (b * 2 ^ s) z.1))).map (ie .u64))), some (.row 1 ((nl z.2).map (ie .u64)))]))
  (inv := fun z => z.1 ≤ K ∧ z.2.length = K ∧ (∀ d ∈ z.2, d < 18446744073709551616) ∧ valB 18446744073709551616 (z.2.drop z.1) = a * 2 ^ s / 18446744073709551616 ^ z.1 / (b * 2 ^ s))
  (m := fun z => z.1) (K, List.replicate K 0) [some 2, some 3, some 5, some 6] rfl (by simp only [hlf.1, ← nl_rep]; (simp (disch := (first | omega | (simp only [lnA, List.length_map, List.length_range, true_and, and_true]; (try omega); done) | fail)) only [go_sem, Int.reduceEq, Int.reduceToNat, Nat.reduceAdd, Nat.reduceMul, Nat.reduceEqDiff, ↓reduceIte, true_and, and_true, and_self, List.drop_zero, List.take_length, Nat.le_refl, V.lit.injEq, Value.int.injEq, Value.bool.injEq]; try (first | omega | (simp; done) | (simp; omega)))) (by simp only [← hfd, hnB, Nat.sub_zero, ← nl_takeR, List.map_take]; (simp (disch := (first | omega | (simp only [lnA, List.length_map, List.length_range, true_and, and_true]; (try omega); done) | fail)) only [go_sem, Int.reduceEq, Int.reduceToNat, Nat.reduceAdd, Nat.reduceMul, Nat.reduceEqDiff, ↓reduceIte, true_and, and_true, and_self, List.drop_zero, List.take_length, Nat.le_refl, V.lit.injEq, Value.int.injEq, Value.bool.injEq]; try (first | omega | (simp; done) | (simp; omega))))
  ⟨Nat.le_refl _, by simp, fun d hd => by rw [List.eq_of_mem_replicate hd]; decide, by simp only [hlf.2]; simp [valB]⟩ ?_
 have hD0 : 0 < b * 2 ^ s := Nat.mul_pos (by omega) (Nat.pow_pos (by decide))
 generalize hAe : a * 2 ^ s = A at *
 generalize hDe : b * 2 ^ s = D at *
 generalize hne : (wg b).length = n at *
 generalize hme : (wg a).length = m at *
 rintro ⟨k, O⟩ ⟨hk, hO, hOl, hv⟩
 simp only at hk hO hOl hv ⊢
 have hnO := nl_len O
 by_cases h : 0 < k
 ·
  obtain ⟨i, rfl⟩ : ∃ i, k = i + 1 := ⟨k - 1, by omega⟩
  have hki : (((i + 1 : Nat) : Int) - 1) = (i : Int) := by omega
  obtain ⟨e, he⟩ : ∃ e, m + 1 = i + (n + 1 + e) := ⟨m - n - i, by omega⟩
  have hVl := long_lt (B := 18446744073709551616) (A := A) (i := i) (by decide) hD0
  have hVw : longV 18446744073709551616 A D (i + 1) / 18446744073709551616 ^ i < 18446744073709551616 ^ (n + 1) := by
   rw [Nat.pow_succ]
   exact Nat.lt_of_lt_of_le hVl (Nat.mul_le_mul_right _ (Nat.le_of_lt e2))
  have hlw := long_words (B := 18446744073709551616) (V := longV 18446744073709551616 A D (i + 1)) (i := i) (n := n) (e := e)
  have hlb2 := long_back (B := 18446744073709551616) (V := longV 18446744073709551616 A D (i + 1)) (W := longV 18446744073709551616 A D (i + 1) / 18446744073709551616 ^ i % D) (i := i) (n := n) (e := e) (by decide) hVw (Nat.lt_of_lt_of_le (Nat.mod_lt _ hD0) (Nat.le_trans (Nat.le_of_lt e2) (Nat.pow_le_pow_right (by decide) (by omega))))
  rw [long_mod (by decide), long_next (by decide)] at hlb2
  have hquo := long_quo (B := 18446744073709551616) (A := A) (D := D) (i := i) (by decide) hD0
  have hDv : valB 18446744073709551616 (fw 18446744073709551616 n D) = D := by rw [fw_val (by decide), Nat.mod_eq_of_lt e2]
  have hqlt : longV 18446744073709551616 A D (i + 1) / 18446744073709551616 ^ i / D < 18446744073709551616 := by
   rw [Nat.div_lt_iff_lt_mul hD0, Nat.mul_comm]; exact hVl
  have hdg := digit_fn (P := fw 18446744073709551616 i (longV 18446744073709551616 A D (i + 1))) (S := fw 18446744073709551616 e (longV 18446744073709551616 A D (i + 1) / 18446744073709551616 ^ i / 18446744073709551616 ^ (n + 1))) (dl := fw 18446744073709551616 n D) (U := longV 18446744073709551616 A D (i + 1) / 18446744073709551616 ^ i) (n := n)
   (fw_len _ _) (by omega) (fw_lt (by decide) _ _) (fw_lt (by decide) _ _) (by
    rw [fw_getD D (by omega)]
    have hP : 0 < 18446744073709551616 ^ (n - 1) := Nat.pow_pos (by decide)
    have h1 : 9223372036854775808 ≤ D / 18446744073709551616 ^ (n - 1) := (Nat.le_div_iff_mul_le hP).2 e4
    have h2 : D / 18446744073709551616 ^ (n - 1) < 18446744073709551616 := by
     rw [Nat.div_lt_iff_lt_mul hP, Nat.mul_comm, ← Nat.pow_succ, show (n - 1).succ = n by omega]; exact e2
    rw [Nat.mod_eq_of_lt h2]; omega) (by rw [hDv]; exact hVl) (by rw [fw_len, fw_len]; omega)
  rw [hDv, fw_len, ← hlw, hlb2, ← he] at hdg
  generalize longV 18446744073709551616 A D (i + 1) / 18446744073709551616 ^ i / D = q at *
  have hnu := nl_len (fw 18446744073709551616 (m + 1) (longV 18446744073709551616 A D (i + 1)))
  rw [fw_len] at hnu
  have hset := nl_set O i q
  have hin : ((i : Int) + (n : Int) + 1).toNat - i = n + 1 := by omega
  simp (maxSteps := 1000000) (disch := (first | omega | (simp only [lnA, List.length_map, List.length_range, true_and, and_true]; (try omega); done) | fail)) only [go_sem, hki, hin, Int.reduceEq, Int.reduceToNat, Nat.reduceAdd, Nat.reduceMul, Nat.reduceEqDiff, ↓reduceIte]
  refine callW [some 2] [] (hdg) ?_
  have hms : ((nl O).map (ie .u64)).set i [PV.lit (.int .u64 (q : Int))] = (nl (O.set i q)).map (ie .u64) := by
   rw [← hset, List.map_set]; rfl
  simp (maxSteps := 1000000) (disch := (first | omega | (simp only [lnA, List.length_map, List.length_range, true_and, and_true]; (try omega); done) | fail)) only [go_sem, hki, hms, Int.reduceEq, Int.reduceToNat, Nat.reduceAdd, Nat.reduceMul, Nat.reduceEqDiff, ↓reduceIte]
  refine nextW (i, O.set i q) [some 0, some 1, some 2, some 3] ⟨by simp only; omega, by simpa using hO, setB hOl hqlt, ?_⟩ (by simp only; omega)
  simp only
  rw [set_drop (by omega)]
  show q + 18446744073709551616 * valB 18446744073709551616 (O.drop (i + 1)) = _
  rw [hv, hquo]
 ·
  obtain rfl : k = 0 := by omega
  rw [List.drop_zero, Nat.pow_zero, Nat.div_one] at hv
  have hdv := div_shift (a := a) (y := b) (s := s) (by omega)
  rw [hAe, hDe] at hdv
  rw [hdv.1] at hv
  have hll := long_last (B := 18446744073709551616) (A := A) (D := D)
  rw [hdv.2] at hll
  rw [hll]
  have hpp : 0 < 2 ^ s := Nat.pow_pos (by decide)
  have hVlt : a % b * 2 ^ s < 18446744073709551616 ^ n := by
   rw [← hdv.2]; exact Nat.lt_trans (Nat.mod_lt _ hD0) e2
  have hft : (fw 18446744073709551616 (m + 1) (a % b * 2 ^ s)).take n = fw 18446744073709551616 n (a % b * 2 ^ s) := by
   rw [show m + 1 = n + (m + 1 - n) by omega, fw_add, List.take_left' (fw_len _ _)]
  have hfv : valB 18446744073709551616 (fw 18446744073709551616 n (a % b * 2 ^ s)) = a % b * 2 ^ s := by rw [fw_val (by decide), Nat.mod_eq_of_lt hVlt]
  have hnu := nl_len (fw 18446744073709551616 (m + 1) (a % b * 2 ^ s))
  rw [fw_len] at hnu
  have hml : m ≤ 1000000 := by omega
  have ht : Fn1 Tryz.prog 84 [.row 1 ((nl ((fw 18446744073709551616 (m + 1) (a % b * 2 ^ s)).take n)).map (ie .u64))] [] (NV (a % b * 2 ^ s)) [] := by
   rw [hft]
   have := trimmed_fn (l := fw 18446744073709551616 n (a % b * 2 ^ s)) (fw_lt (by decide) _ _) (by rw [fw_len]; omega)
   rwa [hfv] at this
  rw [← nl_takeR, List.map_take] at ht
  have hsh := shr_fn (v := a % b * 2 ^ s) (N := s) (n := (s : Int)) (by omega) (by omega) (Nat.le_trans (wg_len hVlt) (by omega))
  rw [Nat.mul_div_cancel _ hpp] at hsh
  refine runW ?_
  refine callW [] [3] (trimmed_fn (l := O) hOl (by omega)) ?_
  rw [hv]
  simp (maxSteps := 1000000) (disch := (first | omega | (simp only [lnA, List.length_map, List.length_range, true_and, and_true]; (try omega); done) | fail)) only [go_sem, Nat.sub_zero, Int.reduceEq, Int.reduceToNat, Nat.reduceAdd, Nat.reduceMul, Nat.reduceEqDiff, ↓reduceIte]
  refine callW [] [2] (ht) ?_
  refine runW ?_
  refine callW [] [] (hsh) ?_
  refine runW ?_
  exact endW [] hQ
theorem wg_of_one {b : Nat} (h : (wg b).length = 1) : wg b = [b] := by
 have hv := wg_val b
 match hw : wg b, h with
 | [d], _ =>
  rw [hw] at hv
  simp [valB] at hv
  rw [hv]
theorem wg_of_pos {b : Nat} (h : b ≠ 0) : 0 < (wg b).length := by
 rcases Nat.eq_zero_or_pos (wg b).length with e | e
 ·
  exact absurd (wg_nil.1 (List.length_eq_zero_iff.1 e)) h
 ·
  exact e
theorem ndiv_fn {a b : Nat} (hb : b ≠ 0) (ha : (wg a).length ≤ 1000000) (hbl : (wg b).length ≤ 1000000) : Fn1 Tryz.prog 79 [NV a, NV b] [] (.tup [NV (a / b), NV (a % b), .lit (.int .i64 0)]) [] := by
 refine fn1N_of pl79 (by kernel_rfl) Tryz.call79 Tryz.func79 rfl (by kernel_rfl) rfl [.cell 4 31, .cell 5 31, .tmp 6] (by kernel_rfl) fun Q hQ => ?_
 have hnA := nl_len (wg a)
 have hnB := nl_len (wg b)
 have hb1 := wg_of_pos hb
 refine runW ?_
 refine callV0 (zero_fn (n := b) (by omega)) rfl rfl ?_
 rw [decide_eq_false hb]
 refine runW ?_
 refine callV0 (ncmp_fn (a := a) (b := b) (by omega) (by omega)) rfl rfl ?_
 by_cases h : a < b
 ·
  have hc := cmpI_neg.2 h
  rw [Nat.div_eq_of_lt h, Nat.mod_eq_of_lt h, NV_zero] at hQ
  have ho := of_fn (l := wg a) (wg_lt a) (by omega)
  rw [wg_val] at ho
  simp (maxSteps := 1000000) (disch := (first | omega | (simp only [lnA, List.length_map, List.length_range, true_and, and_true]; (try omega); done) | fail)) only [go_sem, decide_eq_true hc, Int.reduceEq, Int.reduceToNat, Nat.reduceAdd, Nat.reduceMul, Nat.reduceEqDiff, ↓reduceIte]
  refine callV0 (ho) rfl rfl ?_
  refine runW ?_
  exact endW [] hQ
 ·
  have hc : ¬ cmpI a b < 0 := fun e => h (cmpI_neg.1 e)
  by_cases h1 : (wg b).length = 1
  ·
   have hw := wg_of_one h1
   have hblt : b < 18446744073709551616 := by
    have := wg_lt b b (by rw [hw]; simp)
    exact this
   have hg : (nl (wg b)).getD 0 0 = (b : Int) := by rw [hw]; rfl
   have hsp := split_fn (W := wg a) (y := b) (wg_lt a) (by omega) (by omega) hblt
   rw [wg_val] at hsp
   have hqv : valB 18446744073709551616 (fw 18446744073709551616 (wg a).length (a / b)) = a / b := by
    have hlt : a < 18446744073709551616 ^ (wg a).length := dgB_lt_pow (B := 18446744073709551616) (by decide) a
    rw [fw_val (by decide), Nat.mod_eq_of_lt (Nat.lt_of_le_of_lt (Nat.div_le_self a b) hlt)]
   have hrl : a % b < 18446744073709551616 := Nat.lt_trans (Nat.mod_lt _ (by omega)) hblt
   have hn1 : (nl (wg b)).length = 1 := by omega
   have hF := fw_len (B := 18446744073709551616) (wg a).length (a / b)
   have hFl := fw_lt (B := 18446744073709551616) (by decide) (wg a).length (a / b)
   generalize fw 18446744073709551616 (wg a).length (a / b) = F at *
   rw [← hF] at hsp
   have hnF := nl_len F
   simp (maxSteps := 1000000) (disch := (first | omega | (simp only [lnA, List.length_map, List.length_range, true_and, and_true]; (try omega); done) | fail)) only [go_sem, decide_eq_false hc, hn1, hg, Int.reduceEq, Int.reduceToNat, Nat.reduceAdd, Nat.reduceMul, Nat.reduceEqDiff, ↓reduceIte]
   refine callF (hsp) ?_
   refine runW ?_
   refine callW [] [4] (trimmed_fn (l := F) hFl (by omega)) ?_
   rw [hqv]
   refine runW ?_
   refine callW [] [5] (of1_fn (x := a % b) hrl) ?_
   refine runW ?_
   exact endW [] hQ
  ·
   have hl := long_fn (a := a) (b := b) (by omega) (by omega) ha
   have hn1 : decide (((nl (wg b)).length : Int) = 1) = false := decide_eq_false (by omega)
   simp (maxSteps := 1000000) (disch := (first | omega | (simp only [lnA, List.length_map, List.length_range, true_and, and_true]; (try omega); done) | fail)) only [go_sem, decide_eq_false hc, hn1, Int.reduceEq, Int.reduceToNat, Nat.reduceAdd, Nat.reduceMul, Nat.reduceEqDiff, ↓reduceIte]
   refine callV0 (hl) rfl rfl ?_
   refine runW ?_
   exact endW [] hQ
theorem ngcd_fn {a b : Nat} (ha : (wg a).length ≤ 1000000) (hb : (wg b).length ≤ 1000000) : Fn1 Tryz.prog 77 [NV a, NV b] [] (NV (Nat.gcd a b)) [] := by
 refine fn1N_of pl77 (by kernel_rfl) Tryz.call77 Tryz.func77 rfl (by kernel_rfl) rfl [.cell 4 31] (by kernel_rfl) fun Q hQ => ?_
 refine runW ?_
 refine loopW (X := Nat × Nat) (st := fun z => ([(2, .ref 0 0 0 0), (3, .ref 1 0 0 0), (4, .ref 2 0 0 0)], [some (.cells [.row 1 ((nl (wg z.1)).map (ie .u64))]), some (.cells [.row 1 ((nl (wg z.2)).map (ie .u64))]), some (.cells [.lit (.slice none 0 0)])]))
  (inv := fun z => (wg z.1).length ≤ 1000000 ∧ (wg z.2).length ≤ 1000000 ∧ Nat.gcd z.1 z.2 = Nat.gcd a b) (m := fun z => z.2) (a, b) [some 0, some 1, some 2] ⟨ha, hb, rfl⟩ ?_
 rintro ⟨x, y⟩ ⟨hx, hy, hv⟩
 simp only at hx hy hv ⊢
 rw [← hv] at hQ
 refine runW ?_
 refine callV0 (zero_fn (n := y) (by omega)) rfl rfl ?_
 by_cases h : y = 0
 ·
  subst h
  rw [Nat.gcd_zero_right] at hQ
  have ho := of_fn (l := wg x) (wg_lt x) (by omega)
  rw [wg_val] at ho
  simp (maxSteps := 1000000) (disch := (first | omega | (simp only [lnA, List.length_map, List.length_range, true_and, and_true]; (try omega); done) | fail)) only [go_sem, decide_true, Int.reduceEq, Int.reduceToNat, Nat.reduceAdd, Nat.reduceMul, Nat.reduceEqDiff, ↓reduceIte]
  refine callV0 (ho) rfl rfl ?_
  refine runW ?_
  exact endW [] hQ
 ·
  rw [decide_eq_false h]
  refine runW ?_
  refine callV0 (ndiv_fn (a := x) (b := y) h hx hy) rfl rfl ?_
  refine runW ?_
  refine nextW (y, x % y) [some 0, some 1, some 2] ⟨hy, Nat.le_trans (wg_mono (Nat.mod_le _ _)) hx, ?_⟩ (Nat.mod_lt _ (by omega))
  simp only
  rw [← hv, Nat.gcd_comm x y, Nat.gcd_rec y x, Nat.gcd_comm]
end Go.Proofs.YtdohmppildfjhaaGreatDoor
