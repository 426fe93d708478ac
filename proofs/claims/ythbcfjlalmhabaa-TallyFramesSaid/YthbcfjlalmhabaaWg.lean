import Derived.Test.YthbcfjlalmhabaaWe
import Derived.Test.YthbcfjlalmhabaaE7
/-! math/bits.Len64, package codes. -/
namespace Go.Proofs.Ythbcfjlalmhabaa
open Go.Eng Go.Vx
set_option linter.unusedSimpArgs false
set_option linter.unusedVariables false
set_option maxRecDepth 100000
theorem tab_ix {s : ByteArray} {z : Nat} {F : Bool → V → Prop} (h : ∀ z : Fin 256, strAt s z.val = bl z.val) (hs : s.size = 256) (hz : z < 256) :
    ixvV Try.prog 9 (.lit (.string s)) (.lit (.int .u8 (z : Int))) F = F true (.lit (.int .u8 (bl z : Int))) := by
  rw [vis_9 (by omega), show ((z : Nat) : Int).toNat = z by omega, h ⟨z, hz⟩]
theorem len64_fn {n : Nat} (hn : n < 18446744073709551616) : Fn1 Try.prog 66 [.lit (.int .u64 n)] [] (.lit (.int .i64 (bl n : Int))) [] := by
  refine fn1_of pl66 (by kernel_rfl) Try.call66 Try.func66 rfl (by kernel_rfl) rfl [.tmp 2] (by kernel_rfl) fun Q hQ => ?_
  obtain ⟨c, hc⟩ : ∃ c : Int, c = bl n := ⟨_, rfl⟩
  rw [← hc] at hQ
  by_cases h32 : 4294967296 ≤ n
  case' pos =>
    have e1 := bl_div (n := n) (k := 32) h32
    simp (disch := (first | omega | (simp only [List.length_append, List.length_set, List.length_cons, List.length_nil, List.length_replicate, List.length_take, List.length_drop, List.length_map, List.length_range, true_and, and_true]; (try omega); done) | fail)) only [go_sem, Int.reduceEq, Int.reduceToNat, Nat.reduceAdd, Nat.reduceMul, Nat.reduceEqDiff, ↓reduceIte]
    rw [show (n : Int) / 4294967296 = ((n / 2 ^ 32 : Nat) : Int) by omega]
    have hx : n / 2 ^ 32 < 4294967296 := by omega
    generalize n / 2 ^ 32 = x at *
  case' neg =>
    simp (disch := (first | omega | (simp only [List.length_append, List.length_set, List.length_cons, List.length_nil, List.length_replicate, List.length_take, List.length_drop, List.length_map, List.length_range, true_and, and_true]; (try omega); done) | fail)) only [go_sem, Int.reduceEq, Int.reduceToNat, Nat.reduceAdd, Nat.reduceMul, Nat.reduceEqDiff, ↓reduceIte]
    have hx : n < 4294967296 := by omega
    have e1 : bl n = 0 + bl n := by omega
    obtain ⟨x, rfl⟩ : ∃ x, x = n := ⟨_, rfl⟩
  all_goals
    by_cases h16 : 65536 ≤ x
    case' pos =>
      have e2 := bl_div (n := x) (k := 16) h16
      simp (disch := (first | omega | (simp only [List.length_append, List.length_set, List.length_cons, List.length_nil, List.length_replicate, List.length_take, List.length_drop, List.length_map, List.length_range, true_and, and_true]; (try omega); done) | fail)) only [go_sem, Int.reduceEq, Int.reduceToNat, Nat.reduceAdd, Nat.reduceMul, Nat.reduceEqDiff, ↓reduceIte]
      rw [show (x : Int) / 65536 = ((x / 2 ^ 16 : Nat) : Int) by omega]
      have hy : x / 2 ^ 16 < 65536 := by omega
      generalize x / 2 ^ 16 = y at *
    case' neg =>
      simp (disch := (first | omega | (simp only [List.length_append, List.length_set, List.length_cons, List.length_nil, List.length_replicate, List.length_take, List.length_drop, List.length_map, List.length_range, true_and, and_true]; (try omega); done) | fail)) only [go_sem, Int.reduceEq, Int.reduceToNat, Nat.reduceAdd, Nat.reduceMul, Nat.reduceEqDiff, ↓reduceIte]
      have hy : x < 65536 := by omega
      have e2 : bl x = 0 + bl x := by omega
      obtain ⟨y, rfl⟩ : ∃ y, y = x := ⟨_, rfl⟩
  all_goals
    by_cases h8 : 256 ≤ y
    case' pos =>
      have e3 := bl_div (n := y) (k := 8) h8
      simp (disch := (first | omega | (simp only [List.length_append, List.length_set, List.length_cons, List.length_nil, List.length_replicate, List.length_take, List.length_drop, List.length_map, List.length_range, true_and, and_true]; (try omega); done) | fail)) only [go_sem, Int.reduceEq, Int.reduceToNat, Nat.reduceAdd, Nat.reduceMul, Nat.reduceEqDiff, ↓reduceIte]
      rw [show (y : Int) / 256 = ((y / 2 ^ 8 : Nat) : Int) by omega]
      have hz : y / 2 ^ 8 < 256 := by omega
      generalize y / 2 ^ 8 = z at *
    case' neg =>
      simp (disch := (first | omega | (simp only [List.length_append, List.length_set, List.length_cons, List.length_nil, List.length_replicate, List.length_take, List.length_drop, List.length_map, List.length_range, true_and, and_true]; (try omega); done) | fail)) only [go_sem, Int.reduceEq, Int.reduceToNat, Nat.reduceAdd, Nat.reduceMul, Nat.reduceEqDiff, ↓reduceIte]
      have hz : y < 256 := by omega
      have e3 : bl y = 0 + bl y := by omega
      obtain ⟨z, rfl⟩ : ∃ z, z = y := ⟨_, rfl⟩
  all_goals
    have hb8 := bl_le_of (n := z) (k := 8) hz
    rw [tab_ix (of_decide_eq_true (by kernel_rfl)) (by kernel_rfl) hz]
    simp (disch := (first | omega | (simp only [List.length_append, List.length_set, List.length_cons, List.length_nil, List.length_replicate, List.length_take, List.length_drop, List.length_map, List.length_range, true_and, and_true]; (try omega); done) | fail)) only [go_sem, Int.reduceEq, Int.reduceToNat, Nat.reduceAdd, Nat.reduceMul, Nat.reduceEqDiff, ↓reduceIte]
    exact endW [] hQ
theorem putGamma_fn {L : List Bool} {n : Nat} (hn : n < 18446744073709551616) (h0 : n ≠ 0) (hL : L.length < 1099511626000) :
    Fn1 Try.prog 27 [.ref 0 0 0 0, .lit (.int .u64 n)] [some (wrC 1 L), some (wrR L)] (.lit (.int .i64 0)) [some (wrC 2 (L ++ gammaB n)), none, some (wrR (L ++ gammaB n))] := by
  refine fn1_of pl27 (by kernel_rfl) Try.call27 Try.func27 rfl (by kernel_rfl) rfl [.tmp 4] (by kernel_rfl) fun Q hQ => ?_
  have hb := bl_pos h0
  have hb2 := bl_le_of (n := n) (k := 64) hn
  have hb3 := bl_lt n
  simp (disch := (first | omega | (simp only [List.length_append, List.length_set, List.length_cons, List.length_nil, List.length_replicate, List.length_take, List.length_drop, List.length_map, List.length_range, true_and, and_true]; (try omega); done) | fail)) only [go_sem, Int.reduceEq, Int.reduceToNat, Nat.reduceAdd, Nat.reduceMul, Nat.reduceEqDiff, ↓reduceIte]
  refine callV0 (len64_fn hn) rfl rfl ?_
  simp (disch := (first | omega | (simp only [List.length_append, List.length_set, List.length_cons, List.length_nil, List.length_replicate, List.length_take, List.length_drop, List.length_map, List.length_range, true_and, and_true]; (try omega); done) | fail)) only [go_sem, Int.reduceEq, Int.reduceToNat, Nat.reduceAdd, Nat.reduceMul, Nat.reduceEqDiff, ↓reduceIte]
  rw [show ((bl n : Int) - 1) = ((bl n - 1 : Nat) : Int) by omega]
  refine callW [some 0, some 1] [] (num_fn (L := L) (n := 0) (m := ((bl n - 1 : Nat) : Int)) (by omega) (by omega) (by omega) (by omega) (Nat.two_pow_pos _)) ?_
  simp (disch := (first | omega | (simp only [List.length_append, List.length_set, List.length_cons, List.length_nil, List.length_replicate, List.length_take, List.length_drop, List.length_map, List.length_range, true_and, and_true]; (try omega); done) | fail)) only [go_sem, Int.reduceEq, Int.reduceToNat, Nat.reduceAdd, Nat.reduceMul, Nat.reduceEqDiff, ↓reduceIte]
  refine callW [some 0, some 2] [] (num_fn (L := L ++ numBits 0 (bl n - 1)) (n := n) (m := bl n) hn (by simp [numBits_len]; omega) (by omega) (by omega) (by simpa using hb3)) ?_
  simp (disch := (first | omega | (simp only [List.length_append, List.length_set, List.length_cons, List.length_nil, List.length_replicate, List.length_take, List.length_drop, List.length_map, List.length_range, true_and, and_true]; (try omega); done) | fail)) only [go_sem, Int.reduceEq, Int.reduceToNat, Nat.reduceAdd, Nat.reduceMul, Nat.reduceEqDiff, ↓reduceIte]
  rw [List.append_assoc]
  unfold gammaB at hQ
  exact endW [some 0, some 1, some 3] hQ
theorem putGamma0_fn {L : List Bool} :
    Fn1 Try.prog 27 [.ref 0 0 0 0, .lit (.int .u64 0)] [some (wrC 1 L), some (wrR L)] (.lit (.int .i64 2)) [some (wrC 1 L), some (wrR L)] := by
  refine fn1_of pl27 (by kernel_rfl) Try.call27 Try.func27 rfl (by kernel_rfl) rfl [.tmp 4] (by kernel_rfl) fun Q hQ => ?_
  simp (disch := (first | omega | (simp only [List.length_append, List.length_set, List.length_cons, List.length_nil, List.length_replicate, List.length_take, List.length_drop, List.length_map, List.length_range, true_and, and_true]; (try omega); done) | fail)) only [go_sem, Int.reduceEq, Int.reduceToNat, Nat.reduceAdd, Nat.reduceMul, Nat.reduceEqDiff, ↓reduceIte]
  exact endW [some 0, some 1] hQ
theorem putDelta_fn {L : List Bool} {n : Nat} (hn : n < 18446744073709551616) (h0 : n ≠ 0) (hL : L.length < 1099511625000) :
    Fn1 Try.prog 28 [.ref 0 0 0 0, .lit (.int .u64 n)] [some (wrC 1 L), some (wrR L)] (.lit (.int .i64 0)) [some (wrC 2 (L ++ deltaB n)), none, some (wrR (L ++ deltaB n))] := by
  refine fn1_of pl28 (by kernel_rfl) Try.call28 Try.func28 rfl (by kernel_rfl) rfl [.tmp 4] (by kernel_rfl) fun Q hQ => ?_
  have hb := bl_pos h0
  have hb2 := bl_le_of (n := n) (k := 64) hn
  have hb3 := bl_lt n
  simp (disch := (first | omega | (simp only [List.length_append, List.length_set, List.length_cons, List.length_nil, List.length_replicate, List.length_take, List.length_drop, List.length_map, List.length_range, true_and, and_true]; (try omega); done) | fail)) only [go_sem, Int.reduceEq, Int.reduceToNat, Nat.reduceAdd, Nat.reduceMul, Nat.reduceEqDiff, ↓reduceIte]
  refine callV0 (len64_fn hn) rfl rfl ?_
  simp (disch := (first | omega | (simp only [List.length_append, List.length_set, List.length_cons, List.length_nil, List.length_replicate, List.length_take, List.length_drop, List.length_map, List.length_range, true_and, and_true]; (try omega); done) | fail)) only [go_sem, Int.reduceEq, Int.reduceToNat, Nat.reduceAdd, Nat.reduceMul, Nat.reduceEqDiff, ↓reduceIte]
  refine callW [some 0, some 1] [] (putGamma_fn (L := L) (n := bl n) (by omega) (by omega) (by omega)) ?_
  have hx : (n : Nat) ^^^ (n &&& 2 ^ (bl n - 1)) = n - 2 ^ (bl n - 1) := xor_and_top (by omega)
  have hp : 2 ^ (bl n - 1) ≤ n := bl_le h0
  have hp2 : n < 2 ^ (bl n - 1) * 2 := by rw [← Nat.pow_succ, show (bl n - 1).succ = bl n by omega]; exact hb3
  have hgl := gammaB_len (n := bl n) (by omega)
  have hb4 := bl_le_of (n := bl n) (k := 7) (by omega)
  rw [show ((n : Nat) : Int) = ((n : Nat) : Int) from rfl]
  simp (disch := (first | omega | (simp only [List.length_append, List.length_set, List.length_cons, List.length_nil, List.length_replicate, List.length_take, List.length_drop, List.length_map, List.length_range, true_and, and_true]; (try omega); done) | fail)) only [go_sem, show ((bl n : Int) - 1).toNat = bl n - 1 by omega, sh1_u64 (k := bl n - 1) (by omega), andn_eq hn (show 2 ^ (bl n - 1) < 18446744073709551616 by omega), hx, Int.reduceEq, Int.reduceToNat, Nat.reduceAdd, Nat.reduceMul, Nat.reduceEqDiff, ↓reduceIte]
  rw [show ((bl n : Int) - 1) = ((bl n - 1 : Nat) : Int) by omega]
  refine callW [some 0, some 2] [] (num_fn (L := L ++ gammaB (bl n)) (n := n - 2 ^ (bl n - 1)) (m := (bl n - 1 : Nat)) (by omega) (by simp; omega) (by omega) (by omega) (by rw [Int.toNat_natCast]; omega)) ?_
  simp (disch := (first | omega | (simp only [List.length_append, List.length_set, List.length_cons, List.length_nil, List.length_replicate, List.length_take, List.length_drop, List.length_map, List.length_range, true_and, and_true]; (try omega); done) | fail)) only [go_sem, Int.reduceEq, Int.reduceToNat, Nat.reduceAdd, Nat.reduceMul, Nat.reduceEqDiff, ↓reduceIte]
  rw [List.append_assoc]
  unfold deltaB at hQ
  exact endW [some 0, some 1, some 3] hQ
theorem putDelta0_fn {L : List Bool} :
    Fn1 Try.prog 28 [.ref 0 0 0 0, .lit (.int .u64 0)] [some (wrC 1 L), some (wrR L)] (.lit (.int .i64 2)) [some (wrC 1 L), some (wrR L)] := by
  refine fn1_of pl28 (by kernel_rfl) Try.call28 Try.func28 rfl (by kernel_rfl) rfl [.tmp 4] (by kernel_rfl) fun Q hQ => ?_
  simp (disch := (first | omega | (simp only [List.length_append, List.length_set, List.length_cons, List.length_nil, List.length_replicate, List.length_take, List.length_drop, List.length_map, List.length_range, true_and, and_true]; (try omega); done) | fail)) only [go_sem, Int.reduceEq, Int.reduceToNat, Nat.reduceAdd, Nat.reduceMul, Nat.reduceEqDiff, ↓reduceIte]
  exact endW [some 0, some 1] hQ
theorem gammas_fn {n : Nat} (hn : n < 18446744073709551616) : Fn1 Try.prog 39 [.lit (.int .u64 n)] [] (.lit (.int .i64 (2 * bl n - 1 : Nat))) [] := by
  refine fn1_of pl39 (by kernel_rfl) Try.call39 Try.func39 rfl (by kernel_rfl) rfl [.tmp 2] (by kernel_rfl) fun Q hQ => ?_
  have hb2 := bl_le_of (n := n) (k := 64) hn
  simp (disch := (first | omega | (simp only [List.length_append, List.length_set, List.length_cons, List.length_nil, List.length_replicate, List.length_take, List.length_drop, List.length_map, List.length_range, true_and, and_true]; (try omega); done) | fail)) only [go_sem, Int.reduceEq, Int.reduceToNat, Nat.reduceAdd, Nat.reduceMul, Nat.reduceEqDiff, ↓reduceIte]
  refine callV0 (len64_fn hn) rfl rfl ?_
  simp (disch := (first | omega | (simp only [List.length_append, List.length_set, List.length_cons, List.length_nil, List.length_replicate, List.length_take, List.length_drop, List.length_map, List.length_range, true_and, and_true]; (try omega); done) | fail)) only [go_sem, Int.reduceEq, Int.reduceToNat, Nat.reduceAdd, Nat.reduceMul, Nat.reduceEqDiff, ↓reduceIte]
  exact endW [] hQ
theorem deltas_fn {n : Nat} (hn : n < 18446744073709551616) (h0 : n ≠ 0) : Fn1 Try.prog 40 [.lit (.int .u64 n)] [] (.lit (.int .i64 (2 * bl (bl n) - 1 + (bl n - 1) : Nat))) [] := by
  refine fn1_of pl40 (by kernel_rfl) Try.call40 Try.func40 rfl (by kernel_rfl) rfl [.tmp 2] (by kernel_rfl) fun Q hQ => ?_
  have hb := bl_pos h0
  have hb2 := bl_le_of (n := n) (k := 64) hn
  have hb3 := bl_pos (n := bl n) (by omega)
  have hb4 := bl_le_of (n := bl n) (k := 7) (by omega)
  simp (disch := (first | omega | (simp only [List.length_append, List.length_set, List.length_cons, List.length_nil, List.length_replicate, List.length_take, List.length_drop, List.length_map, List.length_range, true_and, and_true]; (try omega); done) | fail)) only [go_sem, Int.reduceEq, Int.reduceToNat, Nat.reduceAdd, Nat.reduceMul, Nat.reduceEqDiff, ↓reduceIte]
  refine callV0 (len64_fn hn) rfl rfl ?_
  simp (disch := (first | omega | (simp only [List.length_append, List.length_set, List.length_cons, List.length_nil, List.length_replicate, List.length_take, List.length_drop, List.length_map, List.length_range, true_and, and_true]; (try omega); done) | fail)) only [go_sem, Int.reduceEq, Int.reduceToNat, Nat.reduceAdd, Nat.reduceMul, Nat.reduceEqDiff, ↓reduceIte]
  refine callV0 (gammas_fn (by omega)) rfl rfl ?_
  simp (disch := (first | omega | (simp only [List.length_append, List.length_set, List.length_cons, List.length_nil, List.length_replicate, List.length_take, List.length_drop, List.length_map, List.length_range, true_and, and_true]; (try omega); done) | fail)) only [go_sem, Int.reduceEq, Int.reduceToNat, Nat.reduceAdd, Nat.reduceMul, Nat.reduceEqDiff, ↓reduceIte]
  exact endW [] hQ
theorem deltas0_fn : Fn1 Try.prog 40 [.lit (.int .u64 0)] [] (.lit (.int .i64 0)) [] := by
  refine fn1_of pl40 (by kernel_rfl) Try.call40 Try.func40 rfl (by kernel_rfl) rfl [.tmp 2] (by kernel_rfl) fun Q hQ => ?_
  simp (disch := (first | omega | (simp only [List.length_append, List.length_set, List.length_cons, List.length_nil, List.length_replicate, List.length_take, List.length_drop, List.length_map, List.length_range, true_and, and_true]; (try omega); done) | fail)) only [go_sem, Int.reduceEq, Int.reduceToNat, Nat.reduceAdd, Nat.reduceMul, Nat.reduceEqDiff, ↓reduceIte]
  exact endW [] hQ
theorem vars_fn {n : Nat} (hn : n < 18446744073709551616) : Fn1 Try.prog 41 [.lit (.int .u64 n)] [] (.lit (.int .i64 (8 * max 1 ((bl n + 6) / 7) : Nat))) [] := by
  refine fn1_of pl41 (by kernel_rfl) Try.call41 Try.func41 rfl (by kernel_rfl) rfl [.tmp 2] (by kernel_rfl) fun Q hQ => ?_
  have hb2 := bl_le_of (n := n) (k := 64) hn
  simp (disch := (first | omega | (simp only [List.length_append, List.length_set, List.length_cons, List.length_nil, List.length_replicate, List.length_take, List.length_drop, List.length_map, List.length_range, true_and, and_true]; (try omega); done) | fail)) only [go_sem, Int.reduceEq, Int.reduceToNat, Nat.reduceAdd, Nat.reduceMul, Nat.reduceEqDiff, ↓reduceIte]
  refine callV0 (len64_fn hn) rfl rfl ?_
  simp (disch := (first | omega | (simp only [List.length_append, List.length_set, List.length_cons, List.length_nil, List.length_replicate, List.length_take, List.length_drop, List.length_map, List.length_range, true_and, and_true]; (try omega); done) | fail)) only [go_sem, Int.reduceEq, Int.reduceToNat, Nat.reduceAdd, Nat.reduceMul, Nat.reduceEqDiff, ↓reduceIte]
  exact endW [] hQ
theorem putVar_fn {L : List Bool} {n : Nat} (hn : n < 18446744073709551616) (hL : L.length < 1099511625000) :
    Fn1 Try.prog 30 [.ref 0 0 0 0, .lit (.int .u64 n)] [some (wrC 1 L), some (wrR L)] (.tup []) [some (wrC 2 (L ++ varB n)), none, some (wrR (L ++ varB n))] := by
  refine fn1_of pl30 (by kernel_rfl) Try.call30 Try.func30 rfl (by kernel_rfl) rfl [] (by kernel_rfl) fun Q hQ => ?_
  simp (disch := (first | omega | (simp only [List.length_append, List.length_set, List.length_cons, List.length_nil, List.length_replicate, List.length_take, List.length_drop, List.length_map, List.length_range, true_and, and_true]; (try omega); done) | fail)) only [go_sem, Int.reduceEq, Int.reduceToNat, Nat.reduceAdd, Nat.reduceMul, Nat.reduceEqDiff, ↓reduceIte]
  have hvl := varB_len n
  have hb2 := bl_le_of (n := n) (k := 64) hn
  refine LoopV_of (X := Nat × List Bool) (st := fun x => ([(0, .ref 0 0 0 0), (1, .lit (.int .u64 (x.1 : Int)))], [some (wrC 2 x.2), none, some (wrR x.2)]))
    (inv := fun x => x.2 ++ varB x.1 = L ++ varB n ∧ x.1 ≤ n) (m := fun x => x.1) (n, L) [some 0, some 1, some 1] rfl (by simp (disch := (first | omega | (simp only [List.length_append, List.length_set, List.length_cons, List.length_nil, List.length_replicate, List.length_take, List.length_drop, List.length_map, List.length_range, true_and, and_true]; (try omega); done) | fail)) only [go_sem, Int.reduceEq, Int.reduceToNat, Nat.reduceAdd, Nat.reduceMul, Nat.reduceEqDiff, ↓reduceIte, true_and, and_true, and_self, List.drop_zero, List.take_length, Nat.le_refl, V.lit.injEq, Value.int.injEq, Value.bool.injEq]; try (first | omega | (simp; done) | (simp; omega))) (by simp (disch := (first | omega | (simp only [List.length_append, List.length_set, List.length_cons, List.length_nil, List.length_replicate, List.length_take, List.length_drop, List.length_map, List.length_range, true_and, and_true]; (try omega); done) | fail)) only [go_sem, Int.reduceEq, Int.reduceToNat, Nat.reduceAdd, Nat.reduceMul, Nat.reduceEqDiff, ↓reduceIte, true_and, and_true, and_self, List.drop_zero, List.take_length, Nat.le_refl, V.lit.injEq, Value.int.injEq, Value.bool.injEq]; try (first | omega | (simp; done) | (simp; omega))) ⟨rfl, Nat.le_refl _⟩ ?_
  rintro ⟨x, M⟩ ⟨hM, hx⟩
  simp only at hM hx
  have hlen := congrArg List.length hM
  simp only [List.length_append] at hlen
  by_cases h : x < 128
  · rw [varB_lt h] at hM
    simp (disch := (first | omega | (simp only [List.length_append, List.length_set, List.length_cons, List.length_nil, List.length_replicate, List.length_take, List.length_drop, List.length_map, List.length_range, true_and, and_true]; (try omega); done) | fail)) only [go_sem, Int.reduceEq, Int.reduceToNat, Nat.reduceAdd, Nat.reduceMul, Nat.reduceEqDiff, ↓reduceIte]
    refine callW [some 0, some 2] [] (num_fn (L := M) (n := x) (m := 8) (by omega) (by omega) (by omega) (by omega) (by simp only [Int.reduceToNat]; omega)) ?_
    simp only [Int.reduceToNat]
    rw [hM]
    simp (disch := (first | omega | (simp only [List.length_append, List.length_set, List.length_cons, List.length_nil, List.length_replicate, List.length_take, List.length_drop, List.length_map, List.length_range, true_and, and_true]; (try omega); done) | fail)) only [go_sem, Int.reduceEq, Int.reduceToNat, Nat.reduceAdd, Nat.reduceMul, Nat.reduceEqDiff, ↓reduceIte]
    exact endW [some 0, some 1, some 3] hQ
  · rw [varB_ge h, ← List.append_assoc] at hM
    simp (disch := (first | omega | (simp only [List.length_append, List.length_set, List.length_cons, List.length_nil, List.length_replicate, List.length_take, List.length_drop, List.length_map, List.length_range, true_and, and_true]; (try omega); done) | fail)) only [go_sem, Int.reduceEq, Int.reduceToNat, Nat.reduceAdd, Nat.reduceMul, Nat.reduceEqDiff, ↓reduceIte]
    rw [or_128]
    refine callW [some 0, some 2] [] (num_fn (L := M) (n := 128 + x % 128) (m := 8) (by omega) (by omega) (by omega) (by omega) (by simp only [Int.reduceToNat]; omega)) ?_
    simp only [Int.reduceToNat]
    simp (disch := (first | omega | (simp only [List.length_append, List.length_set, List.length_cons, List.length_nil, List.length_replicate, List.length_take, List.length_drop, List.length_map, List.length_range, true_and, and_true]; (try omega); done) | fail)) only [go_sem, Int.reduceEq, Int.reduceToNat, Nat.reduceAdd, Nat.reduceMul, Nat.reduceEqDiff, ↓reduceIte]
    refine nextW (x / 128, M ++ numBits (128 + x % 128) 8) [some 0, some 1, some 3] ⟨hM, by simp only; omega⟩ (by simp only; omega)
theorem bl_one : bl 1 = 1 := by decide
theorem high_fn {n : Nat} (hn : n < 18446744073709551616) (h0 : n ≠ 0) : Fn1 Try.prog 67 [.lit (.int .u64 n)] [] (.lit (.int .i64 (bl n - 1 : Nat))) [] := by
  refine fn1_of pl67 (by kernel_rfl) Try.call67 Try.func67 rfl (by kernel_rfl) rfl [.tmp 2] (by kernel_rfl) fun Q hQ => ?_
  have hb2 := bl_le_of (n := n) (k := 64) hn
  simp (disch := (first | omega | (simp only [List.length_append, List.length_set, List.length_cons, List.length_nil, List.length_replicate, List.length_take, List.length_drop, List.length_map, List.length_range, true_and, and_true]; (try omega); done) | fail)) only [go_sem, Int.reduceEq, Int.reduceToNat, Nat.reduceAdd, Nat.reduceMul, Nat.reduceEqDiff, ↓reduceIte]
  refine LoopV_of (X := Nat × Nat) (st := fun x => ([(0, .lit (.int .u64 (x.1 : Int))), (3, .lit (.int .i64 (x.2 : Int)))], []))
    (inv := fun x => bl x.1 + x.2 = bl n ∧ x.1 ≠ 0 ∧ x.1 ≤ n) (m := fun x => x.1) (n, 0) [] rfl (by simp (disch := (first | omega | (simp only [List.length_append, List.length_set, List.length_cons, List.length_nil, List.length_replicate, List.length_take, List.length_drop, List.length_map, List.length_range, true_and, and_true]; (try omega); done) | fail)) only [go_sem, Int.reduceEq, Int.reduceToNat, Nat.reduceAdd, Nat.reduceMul, Nat.reduceEqDiff, ↓reduceIte, true_and, and_true, and_self, List.drop_zero, List.take_length, Nat.le_refl, V.lit.injEq, Value.int.injEq, Value.bool.injEq]; try (first | omega | (simp; done) | (simp; omega))) (by simp (disch := (first | omega | (simp only [List.length_append, List.length_set, List.length_cons, List.length_nil, List.length_replicate, List.length_take, List.length_drop, List.length_map, List.length_range, true_and, and_true]; (try omega); done) | fail)) only [go_sem, Int.reduceEq, Int.reduceToNat, Nat.reduceAdd, Nat.reduceMul, Nat.reduceEqDiff, ↓reduceIte, true_and, and_true, and_self, List.drop_zero, List.take_length, Nat.le_refl, V.lit.injEq, Value.int.injEq, Value.bool.injEq]; try (first | omega | (simp; done) | (simp; omega))) ⟨rfl, h0, Nat.le_refl _⟩ ?_
  rintro ⟨m, k⟩ ⟨h1, h2, h3⟩
  simp only at h1 h2 h3
  by_cases h : 2 ≤ m
  · have e := bl_half h
    simp (disch := (first | omega | (simp only [List.length_append, List.length_set, List.length_cons, List.length_nil, List.length_replicate, List.length_take, List.length_drop, List.length_map, List.length_range, true_and, and_true]; (try omega); done) | fail)) only [go_sem, Int.reduceEq, Int.reduceToNat, Nat.reduceAdd, Nat.reduceMul, Nat.reduceEqDiff, ↓reduceIte]
    refine nextW (m / 2, k + 1) [] ⟨by simp only; omega, by simp only; omega, by simp only; omega⟩ (by simp only; omega)
  · obtain rfl : m = 1 := by omega
    rw [bl_one] at h1
    simp (disch := (first | omega | (simp only [List.length_append, List.length_set, List.length_cons, List.length_nil, List.length_replicate, List.length_take, List.length_drop, List.length_map, List.length_range, true_and, and_true]; (try omega); done) | fail)) only [go_sem, Int.reduceEq, Int.reduceToNat, Nat.reduceAdd, Nat.reduceMul, Nat.reduceEqDiff, ↓reduceIte]
    exact endW [] hQ
end Go.Proofs.Ythbcfjlalmhabaa
