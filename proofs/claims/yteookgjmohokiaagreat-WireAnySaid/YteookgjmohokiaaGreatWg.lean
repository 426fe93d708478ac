import Derived.Test.YteookgjmohokiaaGreatWe
import Derived.Test.YteookgjmohokiaaGreatE7
namespace Go.Proofs.YteookgjmohokiaaGreat
open Go.Eng Go.Vx
set_option linter.unusedSimpArgs false
set_option linter.unusedVariables false
set_option maxRecDepth 100000
theorem wtab_ix {s : ByteArray} {z : Nat} {F : Bool → V → Prop} (h : ∀ z : Fin 256, strAt s z.val = bl z.val) (hs : s.size = 256) (hz : z < 256) :
    ixvV Tryz.prog 9 (.lit (.string s)) (.lit (.int .u8 (z : Int))) F = F true (.lit (.int .u8 (bl z : Int))) := by
  rw [vis_9 (by omega), show ((z : Nat) : Int).toNat = z by omega, h ⟨z, hz⟩]
theorem wlen64_fn {n : Nat} (hn : n < 18446744073709551616) : Fn1 Tryz.prog 53 [.lit (.int .u64 n)] [] (.lit (.int .i64 (bl n : Int))) [] := by
  refine fn1N_of pl53 (by kernel_rfl) Tryz.call53 Tryz.func53 rfl (by kernel_rfl) rfl [.tmp 2] (by kernel_rfl) fun Q hQ => ?_
  obtain ⟨c, hc⟩ : ∃ c : Int, c = bl n := ⟨_, rfl⟩
  rw [← hc] at hQ
  by_cases h32 : 4294967296 ≤ n
  case' pos =>
    have e1 := bl_div (n := n) (k := 32) h32
    simp (maxSteps := 1000000) (disch := (first | omega | (simp only [lnA, List.length_map, List.length_range, true_and, and_true]; (try omega); done) | fail)) only [go_sem, Int.reduceEq, Int.reduceToNat, Nat.reduceAdd, Nat.reduceMul, Nat.reduceEqDiff, ↓reduceIte]
    rw [show (n : Int) / 4294967296 = ((n / 2 ^ 32 : Nat) : Int) by omega]
    have hx : n / 2 ^ 32 < 4294967296 := by omega
    generalize n / 2 ^ 32 = x at *
  case' neg =>
    simp (maxSteps := 1000000) (disch := (first | omega | (simp only [lnA, List.length_map, List.length_range, true_and, and_true]; (try omega); done) | fail)) only [go_sem, Int.reduceEq, Int.reduceToNat, Nat.reduceAdd, Nat.reduceMul, Nat.reduceEqDiff, ↓reduceIte]
    have hx : n < 4294967296 := by omega
    have e1 : bl n = 0 + bl n := by omega
    obtain ⟨x, rfl⟩ : ∃ x, x = n := ⟨_, rfl⟩
  all_goals
    by_cases h16 : 65536 ≤ x
    case' pos =>
      have e2 := bl_div (n := x) (k := 16) h16
      simp (maxSteps := 1000000) (disch := (first | omega | (simp only [lnA, List.length_map, List.length_range, true_and, and_true]; (try omega); done) | fail)) only [go_sem, Int.reduceEq, Int.reduceToNat, Nat.reduceAdd, Nat.reduceMul, Nat.reduceEqDiff, ↓reduceIte]
      rw [show (x : Int) / 65536 = ((x / 2 ^ 16 : Nat) : Int) by omega]
      have hy : x / 2 ^ 16 < 65536 := by omega
      generalize x / 2 ^ 16 = y at *
    case' neg =>
      simp (maxSteps := 1000000) (disch := (first | omega | (simp only [lnA, List.length_map, List.length_range, true_and, and_true]; (try omega); done) | fail)) only [go_sem, Int.reduceEq, Int.reduceToNat, Nat.reduceAdd, Nat.reduceMul, Nat.reduceEqDiff, ↓reduceIte]
      have hy : x < 65536 := by omega
      have e2 : bl x = 0 + bl x := by omega
      obtain ⟨y, rfl⟩ : ∃ y, y = x := ⟨_, rfl⟩
  all_goals
    by_cases h8 : 256 ≤ y
    case' pos =>
      have e3 := bl_div (n := y) (k := 8) h8
      simp (maxSteps := 1000000) (disch := (first | omega | (simp only [lnA, List.length_map, List.length_range, true_and, and_true]; (try omega); done) | fail)) only [go_sem, Int.reduceEq, Int.reduceToNat, Nat.reduceAdd, Nat.reduceMul, Nat.reduceEqDiff, ↓reduceIte]
      rw [show (y : Int) / 256 = ((y / 2 ^ 8 : Nat) : Int) by omega]
      have hz : y / 2 ^ 8 < 256 := by omega
      generalize y / 2 ^ 8 = z at *
    case' neg =>
      simp (maxSteps := 1000000) (disch := (first | omega | (simp only [lnA, List.length_map, List.length_range, true_and, and_true]; (try omega); done) | fail)) only [go_sem, Int.reduceEq, Int.reduceToNat, Nat.reduceAdd, Nat.reduceMul, Nat.reduceEqDiff, ↓reduceIte]
      have hz : y < 256 := by omega
      have e3 : bl y = 0 + bl y := by omega
      obtain ⟨z, rfl⟩ : ∃ z, z = y := ⟨_, rfl⟩
  all_goals
    have hb8 := bl_le_of (n := z) (k := 8) hz
    rw [wtab_ix (of_decide_eq_true (by kernel_rfl)) (by kernel_rfl) hz]
    simp (maxSteps := 1000000) (disch := (first | omega | (simp only [lnA, List.length_map, List.length_range, true_and, and_true]; (try omega); done) | fail)) only [go_sem, Int.reduceEq, Int.reduceToNat, Nat.reduceAdd, Nat.reduceMul, Nat.reduceEqDiff, ↓reduceIte]
    exact endW [] hQ
theorem putGamma_fn {L : List Bool} {n : Nat} (hn : n < 18446744073709551616) (h0 : n ≠ 0) (hL : L.length < 1099511626000) :
    Fn1 Tryz.prog 25 [.ref 0 0 0 0, .lit (.int .u64 n)] [some (wrC 1 L), some (wrR L)] (.lit (.int .i64 0)) [some (wrC 2 (L ++ gammaB n)), none, some (wrR (L ++ gammaB n))] := by
  refine fn1N_of pl25 (by kernel_rfl) Tryz.call25 Tryz.func25 rfl (by kernel_rfl) rfl [.tmp 4] (by kernel_rfl) fun Q hQ => ?_
  have hb := bl_pos h0
  have hb2 := bl_le_of (n := n) (k := 64) hn
  have hb3 := bl_lt n
  simp (maxSteps := 1000000) (disch := (first | omega | (simp only [lnA, List.length_map, List.length_range, true_and, and_true]; (try omega); done) | fail)) only [go_sem, Int.reduceEq, Int.reduceToNat, Nat.reduceAdd, Nat.reduceMul, Nat.reduceEqDiff, ↓reduceIte]
  refine callV0 (wlen64_fn hn) rfl rfl ?_
  simp (maxSteps := 1000000) (disch := (first | omega | (simp only [lnA, List.length_map, List.length_range, true_and, and_true]; (try omega); done) | fail)) only [go_sem, Int.reduceEq, Int.reduceToNat, Nat.reduceAdd, Nat.reduceMul, Nat.reduceEqDiff, ↓reduceIte]
  rw [show ((bl n : Int) - 1) = ((bl n - 1 : Nat) : Int) by omega]
  refine callW [some 0, some 1] [] (num_fn (L := L) (n := 0) (m := ((bl n - 1 : Nat) : Int)) (by omega) (by omega) (by omega) (by omega) (Nat.two_pow_pos _)) ?_
  simp (maxSteps := 1000000) (disch := (first | omega | (simp only [lnA, List.length_map, List.length_range, true_and, and_true]; (try omega); done) | fail)) only [go_sem, Int.reduceEq, Int.reduceToNat, Nat.reduceAdd, Nat.reduceMul, Nat.reduceEqDiff, ↓reduceIte]
  refine callW [some 0, some 2] [] (num_fn (L := L ++ numBits 0 (bl n - 1)) (n := n) (m := bl n) hn (by simp [numBits_len]; omega) (by omega) (by omega) (by simpa using hb3)) ?_
  simp (maxSteps := 1000000) (disch := (first | omega | (simp only [lnA, List.length_map, List.length_range, true_and, and_true]; (try omega); done) | fail)) only [go_sem, Int.reduceEq, Int.reduceToNat, Nat.reduceAdd, Nat.reduceMul, Nat.reduceEqDiff, ↓reduceIte]
  rw [List.append_assoc]
  unfold gammaB at hQ
  exact endW [some 0, some 1, some 3] hQ
theorem putVar_fn {L : List Bool} {n : Nat} (hn : n < 18446744073709551616) (hL : L.length < 1099511625000) :
    Fn1 Tryz.prog 57 [.ref 0 0 0 0, .lit (.int .u64 n)] [some (wrC 1 L), some (wrR L)] (.tup []) [some (wrC 2 (L ++ varB n)), none, some (wrR (L ++ varB n))] := by
  refine fn1N_of pl57 (by kernel_rfl) Tryz.call57 Tryz.func57 rfl (by kernel_rfl) rfl [] (by kernel_rfl) fun Q hQ => ?_
  simp (maxSteps := 1000000) (disch := (first | omega | (simp only [lnA, List.length_map, List.length_range, true_and, and_true]; (try omega); done) | fail)) only [go_sem, Int.reduceEq, Int.reduceToNat, Nat.reduceAdd, Nat.reduceMul, Nat.reduceEqDiff, ↓reduceIte]
  have hvl := varB_len n
  have hb2 := bl_le_of (n := n) (k := 64) hn
  refine loopW (X := Nat × List Bool) (st := fun x => ([(0, .ref 0 0 0 0), (1, .lit (.int .u64 (x.1 : Int)))], [some (wrC 2 x.2), none, some (wrR x.2)]))
    (inv := fun x => x.2 ++ varB x.1 = L ++ varB n ∧ x.1 ≤ n) (m := fun x => x.1) (n, L) [some 0, some 1, some 1] ⟨rfl, Nat.le_refl _⟩ ?_
  rintro ⟨x, M⟩ ⟨hM, hx⟩
  simp only at hM hx
  have hlen := congrArg List.length hM
  simp only [List.length_append] at hlen
  by_cases h : x < 128
  · rw [varB_lt h] at hM
    simp (maxSteps := 1000000) (disch := (first | omega | (simp only [lnA, List.length_map, List.length_range, true_and, and_true]; (try omega); done) | fail)) only [go_sem, Int.reduceEq, Int.reduceToNat, Nat.reduceAdd, Nat.reduceMul, Nat.reduceEqDiff, ↓reduceIte]
    refine callW [some 0, some 2] [] (num_fn (L := M) (n := x) (m := 8) (by omega) (by omega) (by omega) (by omega) (by simp only [Int.reduceToNat]; omega)) ?_
    simp only [Int.reduceToNat]
    rw [hM]
    simp (maxSteps := 1000000) (disch := (first | omega | (simp only [lnA, List.length_map, List.length_range, true_and, and_true]; (try omega); done) | fail)) only [go_sem, Int.reduceEq, Int.reduceToNat, Nat.reduceAdd, Nat.reduceMul, Nat.reduceEqDiff, ↓reduceIte]
    exact endW [some 0, some 1, some 3] hQ
  · rw [varB_ge h, ← List.append_assoc] at hM
    simp (maxSteps := 1000000) (disch := (first | omega | (simp only [lnA, List.length_map, List.length_range, true_and, and_true]; (try omega); done) | fail)) only [go_sem, Int.reduceEq, Int.reduceToNat, Nat.reduceAdd, Nat.reduceMul, Nat.reduceEqDiff, ↓reduceIte]
    rw [or_128]
    refine callW [some 0, some 2] [] (num_fn (L := M) (n := 128 + x % 128) (m := 8) (by omega) (by omega) (by omega) (by omega) (by simp only [Int.reduceToNat]; omega)) ?_
    simp only [Int.reduceToNat]
    simp (maxSteps := 1000000) (disch := (first | omega | (simp only [lnA, List.length_map, List.length_range, true_and, and_true]; (try omega); done) | fail)) only [go_sem, Int.reduceEq, Int.reduceToNat, Nat.reduceAdd, Nat.reduceMul, Nat.reduceEqDiff, ↓reduceIte]
    refine nextW (x / 128, M ++ numBits (128 + x % 128) 8) [some 0, some 1, some 3] ⟨hM, by simp only; omega⟩ (by simp only; omega)
end Go.Proofs.YteookgjmohokiaaGreat
