import Derived.Test.YthbcfjlalmhabaaWj
import Derived.Test.YthbcfjlalmhabaaE6
import Derived.Test.YthbcfjlalmhabaaE7
import Derived.Test.YthbcfjlalmhabaaPh
/-! TallyCodes. -/
namespace Go.Proofs.Ythbcfjlalmhabaa
open Go.Eng Go.Vx
set_option linter.unusedSimpArgs false
set_option linter.unusedVariables false
set_option maxRecDepth 100000
theorem isB_pk3 (L : List Bool) : IsB (pk L) := by
  intro x hx
  unfold pk pkTo at hx
  obtain ⟨k, _, rfl⟩ := List.mem_map.1 hx
  have := byteV_lt L k
  omega
/-- All bytes, told as unchanged. -/
theorem bytesR_fn {L : List Bool} (hm : L.length < 1099511627776) : Fn1 Try.prog 20 [.ref 0 0 0 0] [some (wrC 1 L), some (wrR L)] (.row 1 ((pk L).map (ie .u8))) [some (wrC 1 L), some (wrR L)] := by
  refine fn1_of pl20 (by kernel_rfl) Try.call20 Try.func20 rfl (by kernel_rfl) rfl [.tmp 2] (by kernel_rfl) fun Q hQ => ?_
  have hpl := pk_len L
  have e : List.take 0 (List.replicate (pk L).length (0 : Int)) ++ List.take (pk L).length (pk L) ++ List.drop (List.take (pk L).length (pk L)).length (List.replicate (pk L).length 0) = pk L := by simp
  simp (disch := (first | omega | (simp only [List.length_append, List.length_set, List.length_cons, List.length_nil, List.length_replicate, List.length_take, List.length_drop, List.length_map, List.length_range, true_and, and_true]; (try omega); done) | fail)) only [go_sem, Int.reduceEq, Int.reduceToNat, Nat.reduceAdd, Nat.reduceMul, Nat.reduceEqDiff, ↓reduceIte]
  rw [e]
  exact endW [some 0, some 1] hQ
/-- A number of three ways. -/
def three (k x : Nat) : List Bool := numBits x (k + 1) ++ deltaB (x ||| 1) ++ varB x
theorem three_len {k x : Nat} (hx : x < 18446744073709551616) (hk : k < 64) : (three k x).length = k + 1 + (2 * bl (bl (x ||| 1)) - 1 + (bl (x ||| 1) - 1)) + 8 * max 1 ((bl x + 6) / 7) ∧ (three k x).length ≤ 400 := by
  have h1 := deltaB_len (n := x ||| 1) (or_one_pos x)
  have h2 := varB_len x
  have b1 := bl_le_of (n := x) (k := 64) hx
  have b2 := bl_le_of (n := x ||| 1) (k := 64) (or_one_lt hx)
  have b3 := bl_le_of (n := bl (x ||| 1)) (k := 7) (by omega)
  have e : (three k x).length = k + 1 + (2 * bl (bl (x ||| 1)) - 1 + (bl (x ||| 1) - 1)) + 8 * max 1 ((bl x + 6) / 7) := by
    unfold three
    rw [List.length_append, List.length_append, numBits_len, h1, h2]
  exact ⟨e, by omega⟩
theorem shr_fit {x k : Nat} (hx : x < 18446744073709551616) (hk : k < 64) : x / 2 ^ (63 - k) < 2 ^ (k + 1) := by
  rw [Nat.div_lt_iff_lt_mul (Nat.two_pow_pos _), ← Nat.pow_add, show k + 1 + (63 - k) = 64 by omega]
  exact hx
set_option maxHeartbeats 1000000 in
theorem tallyCodes_fn {ns ks : List Int} (hns : ns.length ≤ 9223372036854775807) (hI : ∀ x ∈ ns, 0 ≤ x ∧ x < 18446744073709551616) (hK : ks.length ≤ 9223372036854775807) (hK2 : ∀ x ∈ ks, -9223372036854775808 ≤ x ∧ x ≤ 9223372036854775807) : Fn1 Try.prog 9 [.row 1 (ns.map (ie .u64)), .row 1 (ks.map (ie .i64))] [] (.lit (.bool true)) [] := by
  refine fn1_of pl9 (by kernel_rfl) Try.call9 Try.func9 rfl (by kernel_rfl) rfl [.tmp 4] (by kernel_rfl) fun Q hQ => ?_
  simp (disch := (first | omega | (simp only [List.length_append, List.length_set, List.length_cons, List.length_nil, List.length_replicate, List.length_take, List.length_drop, List.length_map, List.length_range, true_and, and_true]; (try omega); done) | fail)) only [go_sem, Int.reduceEq, Int.reduceToNat, Nat.reduceAdd, Nat.reduceMul, Nat.reduceEqDiff, ↓reduceIte]
  obtain ⟨N, hN⟩ : ∃ N : Nat, min (min (ns.length : Int) ks.length) 25 = N := ⟨min (min ns.length ks.length) 25, by omega⟩
  rw [hN]
  obtain ⟨f, hf⟩ : ∃ f : Nat → List Bool, f = fun i => three ((ks.getD i 0) % 64).toNat ((ns.getD i 0).toNat / 2 ^ (63 - ((ks.getD i 0) % 64).toNat)) := ⟨_, rfl⟩
  refine LoopV_of (X := Nat) (st := fun i => ([(0, .row 1 (ns.map (ie .u64))), (1, .row 1 (ks.map (ie .i64))), (5, .ref 0 0 0 0), (6, .lit (.int .i64 (N : Int))), (7, .lit (.int .i64 ((cat f i).length : Int))), (32, .lit (.int .i64 (N : Int))), (33, .lit (.int .i64 (i : Int)))], [some (wrC 1 (cat f i)), some (wrR (cat f i))]))
    (inv := fun i => i ≤ N ∧ (cat f i).length ≤ 400 * i) (m := fun i => N - i) 0 [some 0, none] rfl (by rw [show cat f 0 = [] from rfl]; (simp (disch := (first | omega | (simp only [List.length_append, List.length_set, List.length_cons, List.length_nil, List.length_replicate, List.length_take, List.length_drop, List.length_map, List.length_range, true_and, and_true]; (try omega); done) | fail)) only [go_sem, Int.reduceEq, Int.reduceToNat, Nat.reduceAdd, Nat.reduceMul, Nat.reduceEqDiff, ↓reduceIte, true_and, and_true, and_self, List.drop_zero, List.take_length, Nat.le_refl, V.lit.injEq, Value.int.injEq, Value.bool.injEq]; try (first | omega | (simp; done) | (simp; omega)))) (by rw [show cat f 0 = [] from rfl]; (simp (disch := (first | omega | (simp only [List.length_append, List.length_set, List.length_cons, List.length_nil, List.length_replicate, List.length_take, List.length_drop, List.length_map, List.length_range, true_and, and_true]; (try omega); done) | fail)) only [go_sem, Int.reduceEq, Int.reduceToNat, Nat.reduceAdd, Nat.reduceMul, Nat.reduceEqDiff, ↓reduceIte, true_and, and_true, and_self, List.drop_zero, List.take_length, Nat.le_refl, V.lit.injEq, Value.int.injEq, Value.bool.injEq]; try (first | omega | (simp; done) | (simp; omega)))) ⟨by omega, by simp [cat]⟩ ?_
  rintro i ⟨hi, hlen⟩
  by_cases hiN : i < N
  · have hcs : cat f (i + 1) = cat f i ++ f i := rfl
    have hx := hI _ (getD_mem (l := ns) (i := i) (by omega))
    obtain ⟨x, hxe⟩ := Int.eq_ofNat_of_zero_le hx.1
    obtain ⟨k, hkx⟩ : ∃ k : Nat, (ks.getD i 0) % 64 = k := ⟨((ks.getD i 0) % 64).toNat, by omega⟩
    have hk : k < 64 := by omega
    rw [hxe] at hx
    have hfe : f i = three k (x / 2 ^ (63 - k)) := by rw [hf]; simp only; rw [hxe, hkx]; rfl
    have hft := shr_fit (x := x) (k := k) (by omega) hk
    have hdl := Nat.div_le_self x (2 ^ (63 - k))
    have hdv := div_nat x (63 - k)
    have h63 : ((63 : Int) - (k : Int)).toNat = 63 - k := by omega
    obtain ⟨y, hy⟩ : ∃ y, x / 2 ^ (63 - k) = y := ⟨_, rfl⟩
    rw [hy] at hfe hft hdl hdv
    have hy64 : y < 18446744073709551616 := by omega
    have hoo := or_one (x := y) hy64
    have hy1 := or_one_lt hy64
    have hy0 := or_one_pos y
    obtain ⟨hl3, hl4⟩ := three_len (k := k) hy64 hk
    rw [hfe] at hcs
    have hcl := congrArg List.length hcs
    rw [List.length_append, hl3] at hcl
    unfold three at hcs
    rw [← List.append_assoc, ← List.append_assoc] at hcs
    have hdl1 := deltaB_len (n := y ||| 1) hy0
    have b2 := bl_le_of (n := y ||| 1) (k := 64) hy1
    have b3 := bl_le_of (n := bl (y ||| 1)) (k := 7) (by omega)
    simp (disch := (first | omega | (simp only [List.length_append, List.length_set, List.length_cons, List.length_nil, List.length_replicate, List.length_take, List.length_drop, List.length_map, List.length_range, true_and, and_true]; (try omega); done) | fail)) only [go_sem, hxe, hkx, h63, hdv, Int.reduceEq, Int.reduceToNat, Nat.reduceAdd, Nat.reduceMul, Nat.reduceEqDiff, ↓reduceIte]
    refine callW [some 0, some 1] [] (num_fn (L := cat f i) (n := y) (m := (k : Int) + 1) hy64 (by omega) (by omega) (by omega) (by rw [show ((k : Int) + 1).toNat = k + 1 by omega]; exact hft)) ?_
    rw [show ((k : Int) + 1).toNat = k + 1 by omega]
    simp (disch := (first | omega | (simp only [List.length_append, List.length_set, List.length_cons, List.length_nil, List.length_replicate, List.length_take, List.length_drop, List.length_map, List.length_range, true_and, and_true]; (try omega); done) | fail)) only [go_sem, hoo, Int.reduceEq, Int.reduceToNat, Nat.reduceAdd, Nat.reduceMul, Nat.reduceEqDiff, ↓reduceIte]
    refine callW [some 0, some 2] [] (putDelta_fn (L := cat f i ++ numBits y (k + 1)) (n := y ||| 1) hy1 hy0 (by rw [List.length_append, numBits_len]; omega)) ?_
    simp (disch := (first | omega | (simp only [List.length_append, List.length_set, List.length_cons, List.length_nil, List.length_replicate, List.length_take, List.length_drop, List.length_map, List.length_range, true_and, and_true]; (try omega); done) | fail)) only [go_sem, hoo, Int.reduceEq, Int.reduceToNat, Nat.reduceAdd, Nat.reduceMul, Nat.reduceEqDiff, ↓reduceIte]
    refine callW [some 0, some 3] [] (putVar_fn (L := cat f i ++ numBits y (k + 1) ++ deltaB (y ||| 1)) (n := y) hy64 (by rw [List.length_append, List.length_append, numBits_len]; omega)) ?_
    rw [← hcs]
    simp (disch := (first | omega | (simp only [List.length_append, List.length_set, List.length_cons, List.length_nil, List.length_replicate, List.length_take, List.length_drop, List.length_map, List.length_range, true_and, and_true]; (try omega); done) | fail)) only [go_sem, hoo, Int.reduceEq, Int.reduceToNat, Nat.reduceAdd, Nat.reduceMul, Nat.reduceEqDiff, ↓reduceIte]
    refine callV0 (deltas_fn (n := y ||| 1) hy1 hy0) rfl rfl ?_
    simp (disch := (first | omega | (simp only [List.length_append, List.length_set, List.length_cons, List.length_nil, List.length_replicate, List.length_take, List.length_drop, List.length_map, List.length_range, true_and, and_true]; (try omega); done) | fail)) only [go_sem, hoo, Int.reduceEq, Int.reduceToNat, Nat.reduceAdd, Nat.reduceMul, Nat.reduceEqDiff, ↓reduceIte]
    refine callV0 (vars_fn (n := y) hy64) rfl rfl ?_
    simp (disch := (first | omega | (simp only [List.length_append, List.length_set, List.length_cons, List.length_nil, List.length_replicate, List.length_take, List.length_drop, List.length_map, List.length_range, true_and, and_true]; (try omega); done) | fail)) only [go_sem, Int.reduceEq, Int.reduceToNat, Nat.reduceAdd, Nat.reduceMul, Nat.reduceEqDiff, ↓reduceIte]
    refine nextW (i + 1) [some 0, some 4] ⟨by omega, by omega⟩ (by omega)
  · obtain rfl : i = N := by omega
    have hpl := pk_len (cat f i)
    have hIp := isB_pk3 (cat f i)
    have hbl := bitsOf_len (pk (cat f i))
    simp (disch := (first | omega | (simp only [List.length_append, List.length_set, List.length_cons, List.length_nil, List.length_replicate, List.length_take, List.length_drop, List.length_map, List.length_range, true_and, and_true]; (try omega); done) | fail)) only [go_sem, Int.reduceEq, Int.reduceToNat, Nat.reduceAdd, Nat.reduceMul, Nat.reduceEqDiff, ↓reduceIte]
    refine callW [some 0, some 1] [] (bytesR_fn (L := cat f i) (by omega)) ?_
    simp (disch := (first | omega | (simp only [List.length_append, List.length_set, List.length_cons, List.length_nil, List.length_replicate, List.length_take, List.length_drop, List.length_map, List.length_range, true_and, and_true]; (try omega); done) | fail)) only [go_sem, Int.reduceEq, Int.reduceToNat, Nat.reduceAdd, Nat.reduceMul, Nat.reduceEqDiff, ↓reduceIte]
    refine callW [some 0, some 1] [] (len_fn (L := cat f i)) ?_
    simp (disch := (first | omega | (simp only [List.length_append, List.length_set, List.length_cons, List.length_nil, List.length_replicate, List.length_take, List.length_drop, List.length_map, List.length_range, true_and, and_true]; (try omega); done) | fail)) only [go_sem, Int.reduceEq, Int.reduceToNat, Nat.reduceAdd, Nat.reduceMul, Nat.reduceEqDiff, ↓reduceIte]
    refine callW [] [] (read_fn (B := pk (cat f i)) (by omega)) ?_
    simp (disch := (first | omega | (simp only [List.length_append, List.length_set, List.length_cons, List.length_nil, List.length_replicate, List.length_take, List.length_drop, List.length_map, List.length_range, true_and, and_true]; (try omega); done) | fail)) only [go_sem, Int.reduceEq, Int.reduceToNat, Nat.reduceAdd, Nat.reduceMul, Nat.reduceEqDiff, ↓reduceIte]
    refine LoopV_of (X := Nat) (st := fun j => ([(0, .row 1 (ns.map (ie .u64))), (1, .row 1 (ks.map (ie .i64))), (7, .lit (.int .i64 ((cat f i).length : Int))), (11, .row 1 ((pk (cat f i)).map (ie .u8))), (12, .ref 0 0 0 0), (87, .lit (.int .i64 (i : Int))), (88, .lit (.int .i64 (j : Int)))], [some (rdC (pk (cat f i)) (cat f j).length)]))
      (inv := fun j => j ≤ i) (m := fun j => i - j) 0 [some 2] rfl (by rw [show cat f 0 = [] from rfl]; (simp (disch := (first | omega | (simp only [List.length_append, List.length_set, List.length_cons, List.length_nil, List.length_replicate, List.length_take, List.length_drop, List.length_map, List.length_range, true_and, and_true]; (try omega); done) | fail)) only [go_sem, Int.reduceEq, Int.reduceToNat, Nat.reduceAdd, Nat.reduceMul, Nat.reduceEqDiff, ↓reduceIte, true_and, and_true, and_self, List.drop_zero, List.take_length, Nat.le_refl, V.lit.injEq, Value.int.injEq, Value.bool.injEq]; try (first | omega | (simp; done) | (simp; omega)))) (by simp (disch := (first | omega | (simp only [List.length_append, List.length_set, List.length_cons, List.length_nil, List.length_replicate, List.length_take, List.length_drop, List.length_map, List.length_range, true_and, and_true]; (try omega); done) | fail)) only [go_sem, Int.reduceEq, Int.reduceToNat, Nat.reduceAdd, Nat.reduceMul, Nat.reduceEqDiff, ↓reduceIte, true_and, and_true, and_self, List.drop_zero, List.take_length, Nat.le_refl, V.lit.injEq, Value.int.injEq, Value.bool.injEq]; try (first | omega | (simp; done) | (simp; omega))) (by omega) ?_
    intro j hj
    by_cases hji : j < i
    · have hcs : cat f (j + 1) = cat f j ++ f j := rfl
      have hx := hI _ (getD_mem (l := ns) (i := j) (by omega))
      obtain ⟨x, hxe⟩ := Int.eq_ofNat_of_zero_le hx.1
      obtain ⟨k, hkx⟩ : ∃ k : Nat, (ks.getD j 0) % 64 = k := ⟨((ks.getD j 0) % 64).toNat, by omega⟩
      have hk : k < 64 := by omega
      rw [hxe] at hx
      have hfe : f j = three k (x / 2 ^ (63 - k)) := by rw [hf]; simp only; rw [hxe, hkx]; rfl
      have hft := shr_fit (x := x) (k := k) (by omega) hk
      have hdl := Nat.div_le_self x (2 ^ (63 - k))
      have hdv := div_nat x (63 - k)
      have h63 : ((63 : Int) - (k : Int)).toNat = 63 - k := by omega
      obtain ⟨y, hy⟩ : ∃ y, x / 2 ^ (63 - k) = y := ⟨_, rfl⟩
      rw [hy] at hfe hft hdl hdv
      have hy64 : y < 18446744073709551616 := by omega
      have hoo := or_one (x := y) hy64
      have hy1 := or_one_lt hy64
      have hy0 := or_one_pos y
      obtain ⟨T, hT⟩ := cat_read (f := f) hji
      rw [hfe] at hcs hT
      have hcl := congrArg List.length hcs
      have hlT := congrArg List.length hT
      unfold three at hcl hlT hT
      simp only [List.length_append, numBits_len] at hcl hlT
      have e1 : ((bitsOf (pk (cat f i))).drop (cat f j).length).take (k + 1) = numBits y (k + 1) := by
        rw [hT, List.append_assoc, List.append_assoc, List.drop_left, List.take_left' (by rw [numBits_len])]
      have e2 : dX (bitsOf (pk (cat f i))) ((cat f j).length + (k + 1)) = (y ||| 1, (cat f j).length + (k + 1) + (deltaB (y ||| 1)).length, 0) := by
        have h := dX_back (A := cat f j ++ numBits y (k + 1)) (T := varB y ++ T) hy0 hy1
        rw [List.length_append, numBits_len] at h
        rw [hT, ← h]
        simp only [List.append_assoc]
      have e3 : vX (bitsOf (pk (cat f i))) ((cat f j).length + (k + 1) + (deltaB (y ||| 1)).length) = (y, (cat f j).length + (k + 1) + (deltaB (y ||| 1)).length + (varB y).length, 0) := by
        have h := vX_back (A := cat f j ++ numBits y (k + 1) ++ deltaB (y ||| 1)) (T := T) hy64
        rw [List.length_append, List.length_append, numBits_len] at h
        rw [hT, ← h]
        simp only [List.append_assoc]
      simp (disch := (first | omega | (simp only [List.length_append, List.length_set, List.length_cons, List.length_nil, List.length_replicate, List.length_take, List.length_drop, List.length_map, List.length_range, true_and, and_true]; (try omega); done) | fail)) only [go_sem, hxe, hkx, Int.reduceEq, Int.reduceToNat, Nat.reduceAdd, Nat.reduceMul, Nat.reduceEqDiff, ↓reduceIte]
      rw [show (k : Int) + 1 = ((k + 1 : Nat) : Int) by omega]
      refine callW [some 0] [] (rnum_fn (B := pk (cat f i)) (p := (cat f j).length) (w := k + 1) hIp (by omega) (by omega) (by omega)) ?_
      rw [e1, numOf_numBits, Nat.mod_eq_of_lt hft]
      simp (disch := (first | omega | (simp only [List.length_append, List.length_set, List.length_cons, List.length_nil, List.length_replicate, List.length_take, List.length_drop, List.length_map, List.length_range, true_and, and_true]; (try omega); done) | fail)) only [go_sem, Int.reduceEq, Int.reduceToNat, Nat.reduceAdd, Nat.reduceMul, Nat.reduceEqDiff, ↓reduceIte]
      refine callW [some 0] [] (delta_fn (B := pk (cat f i)) (p := (cat f j).length + (k + 1)) hIp (by omega) (by omega)) ?_
      rw [e2]
      simp (disch := (first | omega | (simp only [List.length_append, List.length_set, List.length_cons, List.length_nil, List.length_replicate, List.length_take, List.length_drop, List.length_map, List.length_range, true_and, and_true]; (try omega); done) | fail)) only [go_sem, Int.reduceEq, Int.reduceToNat, Nat.reduceAdd, Nat.reduceMul, Nat.reduceEqDiff, ↓reduceIte]
      refine callW [some 0] [] (var_fn (B := pk (cat f i)) (p := (cat f j).length + (k + 1) + (deltaB (y ||| 1)).length) hIp (by omega) (by omega)) ?_
      rw [e3]
      simp (disch := (first | omega | (simp only [List.length_append, List.length_set, List.length_cons, List.length_nil, List.length_replicate, List.length_take, List.length_drop, List.length_map, List.length_range, true_and, and_true]; (try omega); done) | fail)) only [go_sem, hxe, hkx, h63, hdv, hoo, Int.reduceEq, Int.reduceToNat, Nat.reduceAdd, Nat.reduceMul, Nat.reduceEqDiff, ↓reduceIte]
      refine NextV_of (j + 1) [some 0] rfl (by dsimp only; rw [hcl]; (simp (disch := (first | omega | (simp only [List.length_append, List.length_set, List.length_cons, List.length_nil, List.length_replicate, List.length_take, List.length_drop, List.length_map, List.length_range, true_and, and_true]; (try omega); done) | fail)) only [go_sem, Int.reduceEq, Int.reduceToNat, Nat.reduceAdd, Nat.reduceMul, Nat.reduceEqDiff, ↓reduceIte, true_and, and_true, and_self, List.drop_zero, List.take_length, Nat.le_refl, V.lit.injEq, Value.int.injEq, Value.bool.injEq]; try (first | omega | (simp; done) | (simp; omega)))) (by simp (disch := (first | omega | (simp only [List.length_append, List.length_set, List.length_cons, List.length_nil, List.length_replicate, List.length_take, List.length_drop, List.length_map, List.length_range, true_and, and_true]; (try omega); done) | fail)) only [go_sem, Int.reduceEq, Int.reduceToNat, Nat.reduceAdd, Nat.reduceMul, Nat.reduceEqDiff, ↓reduceIte, true_and, and_true, and_self, List.drop_zero, List.take_length, Nat.le_refl, V.lit.injEq, Value.int.injEq, Value.bool.injEq]; try (first | omega | (simp; done) | (simp; omega))) (by omega) (by omega)
    · obtain rfl : j = i := by omega
      simp (disch := (first | omega | (simp only [List.length_append, List.length_set, List.length_cons, List.length_nil, List.length_replicate, List.length_take, List.length_drop, List.length_map, List.length_range, true_and, and_true]; (try omega); done) | fail)) only [go_sem, Int.reduceEq, Int.reduceToNat, Nat.reduceAdd, Nat.reduceMul, Nat.reduceEqDiff, ↓reduceIte]
      refine callW [] [] (read_fn (B := pk (cat f j)) (by omega)) ?_
      simp (disch := (first | omega | (simp only [List.length_append, List.length_set, List.length_cons, List.length_nil, List.length_replicate, List.length_take, List.length_drop, List.length_map, List.length_range, true_and, and_true]; (try omega); done) | fail)) only [go_sem, Int.reduceEq, Int.reduceToNat, Nat.reduceAdd, Nat.reduceMul, Nat.reduceEqDiff, ↓reduceIte]
      have hbp := bitsOf_pk (cat f j)
      generalize cat f j = L at *
      refine LoopV_of (X := Nat) (st := fun q => ([(11, .row 1 ((pk L).map (ie .u8))), (12, .ref 0 0 0 0), (21, .ref 1 0 0 0), (22, .ref 3 0 0 0), (148, .lit (.int .i64 (L.length : Int))), (149, .lit (.int .i64 (q : Int)))], [some (rdC (pk L) L.length), some (wrC 2 (L.take q)), some (wrR (L.take q)), some (rdC (pk L) q)]))
        (inv := fun q => q ≤ L.length) (m := fun q => L.length - q) 0 [some 0, some 1, none, some 2] rfl (by rw [List.take_zero]; (simp (disch := (first | omega | (simp only [List.length_append, List.length_set, List.length_cons, List.length_nil, List.length_replicate, List.length_take, List.length_drop, List.length_map, List.length_range, true_and, and_true]; (try omega); done) | fail)) only [go_sem, Int.reduceEq, Int.reduceToNat, Nat.reduceAdd, Nat.reduceMul, Nat.reduceEqDiff, ↓reduceIte, true_and, and_true, and_self, List.drop_zero, List.take_length, Nat.le_refl, V.lit.injEq, Value.int.injEq, Value.bool.injEq]; try (first | omega | (simp; done) | (simp; omega)))) (by simp (disch := (first | omega | (simp only [List.length_append, List.length_set, List.length_cons, List.length_nil, List.length_replicate, List.length_take, List.length_drop, List.length_map, List.length_range, true_and, and_true]; (try omega); done) | fail)) only [go_sem, Int.reduceEq, Int.reduceToNat, Nat.reduceAdd, Nat.reduceMul, Nat.reduceEqDiff, ↓reduceIte, true_and, and_true, and_self, List.drop_zero, List.take_length, Nat.le_refl, V.lit.injEq, Value.int.injEq, Value.bool.injEq]; try (first | omega | (simp; done) | (simp; omega))) (by omega) ?_
      intro q hq
      by_cases hqL : q < L.length
      · have hr1 := rX_one (L := bitsOf (pk L)) (p := q) (by omega)
        have hg : (bitsOf (pk L)).getD q false = L.getD q false := by
          rw [hbp, List.getD_eq_getElem?_getD, List.getElem?_append_left hqL, ← List.getD_eq_getElem?_getD]
        rw [hg] at hr1
        have ht : L.take (q + 1) = L.take q ++ [L.getD q false] := by
          rw [List.take_add_one, List.getD_eq_getElem?_getD, List.getElem?_eq_getElem hqL]; rfl
        have hd : decide ((((L.getD q false).toNat : Nat)) = 1) = L.getD q false := by cases L.getD q false <;> rfl
        simp (disch := (first | omega | (simp only [List.length_append, List.length_set, List.length_cons, List.length_nil, List.length_replicate, List.length_take, List.length_drop, List.length_map, List.length_range, true_and, and_true]; (try omega); done) | fail)) only [go_sem, Int.reduceEq, Int.reduceToNat, Nat.reduceAdd, Nat.reduceMul, Nat.reduceEqDiff, ↓reduceIte]
        refine callW [some 3] [] (rbitX_fn (B := pk L) (p := q) hIp (by omega) (by omega)) ?_
        rw [hr1]
        simp only [hd]
        simp (disch := (first | omega | (simp only [List.length_append, List.length_set, List.length_cons, List.length_nil, List.length_replicate, List.length_take, List.length_drop, List.length_map, List.length_range, true_and, and_true]; (try omega); done) | fail)) only [go_sem, Int.reduceEq, Int.reduceToNat, Nat.reduceAdd, Nat.reduceMul, Nat.reduceEqDiff, ↓reduceIte]
        refine callW [some 1, some 2] [] (bit_fn (L := L.take q) (x := L.getD q false) (by simp; omega)) ?_
        rw [← ht]
        simp (disch := (first | omega | (simp only [List.length_append, List.length_set, List.length_cons, List.length_nil, List.length_replicate, List.length_take, List.length_drop, List.length_map, List.length_range, true_and, and_true]; (try omega); done) | fail)) only [go_sem, Int.reduceEq, Int.reduceToNat, Nat.reduceAdd, Nat.reduceMul, Nat.reduceEqDiff, ↓reduceIte]
        refine nextW (q + 1) [some 0, some 1, some 4, some 3] (by omega) (by omega)
      · obtain rfl : q = L.length := by omega
        rw [List.take_length]
        simp (disch := (first | omega | (simp only [List.length_append, List.length_set, List.length_cons, List.length_nil, List.length_replicate, List.length_take, List.length_drop, List.length_map, List.length_range, true_and, and_true]; (try omega); done) | fail)) only [go_sem, Int.reduceEq, Int.reduceToNat, Nat.reduceAdd, Nat.reduceMul, Nat.reduceEqDiff, ↓reduceIte]
        refine callW [] [] (read_fn (B := []) (by decide)) ?_
        simp (disch := (first | omega | (simp only [List.length_append, List.length_set, List.length_cons, List.length_nil, List.length_replicate, List.length_take, List.length_drop, List.length_map, List.length_range, true_and, and_true]; (try omega); done) | fail)) only [go_sem, Int.reduceEq, Int.reduceToNat, Nat.reduceAdd, Nat.reduceMul, Nat.reduceEqDiff, ↓reduceIte]
        refine callW [some 4] [] (rnumE_fn (B := []) (p := 0) (w := 1) (fun x hx => by simp at hx) (by decide) (by decide) (by decide) (by decide)) ?_
        simp (disch := (first | omega | (simp only [List.length_append, List.length_set, List.length_cons, List.length_nil, List.length_replicate, List.length_take, List.length_drop, List.length_map, List.length_range, true_and, and_true]; (try omega); done) | fail)) only [go_sem, Int.reduceEq, Int.reduceToNat, Nat.reduceAdd, Nat.reduceMul, Nat.reduceEqDiff, ↓reduceIte]
        refine callW [some 0] [] (close_fn (B := pk L) (p := L.length) hIp (by omega) (by omega)) ?_
        rw [pk_close]
        simp (disch := (first | omega | (simp only [List.length_append, List.length_set, List.length_cons, List.length_nil, List.length_replicate, List.length_take, List.length_drop, List.length_map, List.length_range, true_and, and_true]; (try omega); done) | fail)) only [go_sem, Int.reduceEq, Int.reduceToNat, Nat.reduceAdd, Nat.reduceMul, Nat.reduceEqDiff, ↓reduceIte]
        refine callW [some 3] [] (close_fn (B := pk L) (p := L.length) hIp (by omega) (by omega)) ?_
        rw [pk_close]
        simp (disch := (first | omega | (simp only [List.length_append, List.length_set, List.length_cons, List.length_nil, List.length_replicate, List.length_take, List.length_drop, List.length_map, List.length_range, true_and, and_true]; (try omega); done) | fail)) only [go_sem, Int.reduceEq, Int.reduceToNat, Nat.reduceAdd, Nat.reduceMul, Nat.reduceEqDiff, ↓reduceIte]
        refine callW [some 1, some 2] [] (bytesR_fn (L := L) (by omega)) ?_
        simp (disch := (first | omega | (simp only [List.length_append, List.length_set, List.length_cons, List.length_nil, List.length_replicate, List.length_take, List.length_drop, List.length_map, List.length_range, true_and, and_true]; (try omega); done) | fail)) only [go_sem, Int.reduceEq, Int.reduceToNat, Nat.reduceAdd, Nat.reduceMul, Nat.reduceEqDiff, ↓reduceIte]
        refine callV0 (refSame_fn (A := pk L) (B := pk L) (by omega) (by omega)) rfl rfl ?_
        rw [decide_eq_true rfl]
        simp (disch := (first | omega | (simp only [List.length_append, List.length_set, List.length_cons, List.length_nil, List.length_replicate, List.length_take, List.length_drop, List.length_map, List.length_range, true_and, and_true]; (try omega); done) | fail)) only [go_sem, Int.reduceEq, Int.reduceToNat, Nat.reduceAdd, Nat.reduceMul, Nat.reduceEqDiff, ↓reduceIte]
        exact endW [] hQ
end Go.Proofs.Ythbcfjlalmhabaa
