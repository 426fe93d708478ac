import Derived.Test.YteookgjmohokiaaGreatE6
import Derived.Test.YteookgjmohokiaaGreatE7
/-! math/bits.Len64. -/
namespace Go.Proofs.YteookgjmohokiaaGreat
open Go.Eng Go.Vx
set_option linter.unusedSimpArgs false
set_option linter.unusedVariables false
set_option maxRecDepth 100000
theorem tab_ix {s : ByteArray} {z : Nat} {F : Bool → V → Prop} (h : ∀ z : Fin 256, strAt s z.val = bl z.val) (hs : s.size = 256) (hz : z < 256) :
    ixvV Tryz.prog 9 (.lit (.string s)) (.lit (.int .u8 (z : Int))) F = F true (.lit (.int .u8 (bl z : Int))) := by
  rw [vis_9 (by omega), show ((z : Nat) : Int).toNat = z by omega, h ⟨z, hz⟩]
theorem len64_fn {n : Nat} (hn : n < 18446744073709551616) : Fn1 Tryz.prog 53 [.lit (.int .u64 n)] [] (.lit (.int .i64 (bl n : Int))) [] := by
  refine fn1N_of pl53 (by kernel_rfl) Tryz.call53 Tryz.func53 rfl (by kernel_rfl) rfl [.tmp 2] (by kernel_rfl) fun Q hQ => ?_
  obtain ⟨c, hc⟩ : ∃ c : Int, c = bl n := ⟨_, rfl⟩
  rw [← hc] at hQ
  by_cases h32 : 4294967296 ≤ n
  case' pos =>
    have e1 := bl_div (n := n) (k := 32) h32
    simp (maxSteps := 1000000) (disch := (first | omega | (simp only [lnA, List.length_map, List.length_range, true_and, and_true]; (try omega); done) | fail)) only [go_sem, Int.reduceEq, Int.reduceToNat, Nat.reduceAdd, Nat.reduceMul, Nat.reduceEqDiff, ↓reduceIte]
    rw [show (n : Int) / 4294967296 = ((n / 2 ^ 32 : Nat) : Int) by omega]
    have hx : n / 2 ^ 32 < 4294967296 := by omega
    generalize n / 2 ^ 32 = x at *
  case' neg =>
    simp (maxSteps := 1000000) (disch := (first | omega | (simp only [lnA, List.length_map, List.length_range, true_and, and_true]; (try omega); done) | fail)) only [go_sem, Int.reduceEq, Int.reduceToNat, Nat.reduceAdd, Nat.reduceMul, Nat.reduceEqDiff, ↓reduceIte]
    have hx : n < 4294967296 := by omega
    have e1 : bl n = 0 + bl n := by omega
    obtain ⟨x, rfl⟩ : ∃ x, x = n := ⟨_, rfl⟩
  all_goals
    by_cases h16 : 65536 ≤ x
    case' pos =>
      have e2 := bl_div (n := x) (k := 16) h16
      simp (maxSteps := 1000000) (disch := (first | omega | (simp only [lnA, List.length_map, List.length_range, true_and, and_true]; (try omega); done) | fail)) only [go_sem, Int.reduceEq, Int.reduceToNat, Nat.reduceAdd, Nat.reduceMul, Nat.reduceEqDiff, ↓reduceIte]
      rw [show (x : Int) / 65536 = ((x / 2 ^ 16 : Nat) : Int) by omega]
      have hy : x / 2 ^ 16 < 65536 := by omega
      generalize x / 2 ^ 16 = y at *
    case' neg =>
      simp (maxSteps := 1000000) (disch := (first | omega | (simp only [lnA, List.length_map, List.length_range, true_and, and_true]; (try omega); done) | fail)) only [go_sem, Int.reduceEq, Int.reduceToNat, Nat.reduceAdd, Nat.reduceMul, Nat.reduceEqDiff, ↓reduceIte]
      have hy : x < 65536 := by omega
      have e2 : bl x = 0 + bl x := by omega
      obtain ⟨y, rfl⟩ : ∃ y, y = x := ⟨_, rfl⟩
  all_goals
    by_cases h8 : 256 ≤ y
    case' pos =>
      have e3 := bl_div (n := y) (k := 8) h8
      simp (maxSteps := 1000000) (disch := (first | omega | (simp only [lnA, List.length_map, List.length_range, true_and, and_true]; (try omega); done) | fail)) only [go_sem, Int.reduceEq, Int.reduceToNat, Nat.reduceAdd, Nat.reduceMul, Nat.reduceEqDiff, ↓reduceIte]
      rw [show (y : Int) / 256 = ((y / 2 ^ 8 : Nat) : Int) by omega]
      have hz : y / 2 ^ 8 < 256 := by omega
      generalize y / 2 ^ 8 = z at *
    case' neg =>
      simp (maxSteps := 1000000) (disch := (first | omega | (simp only [lnA, List.length_map, List.length_range, true_and, and_true]; (try omega); done) | fail)) only [go_sem, Int.reduceEq, Int.reduceToNat, Nat.reduceAdd, Nat.reduceMul, Nat.reduceEqDiff, ↓reduceIte]
      have hz : y < 256 := by omega
      have e3 : bl y = 0 + bl y := by omega
      obtain ⟨z, rfl⟩ : ∃ z, z = y := ⟨_, rfl⟩
  all_goals
    have hb8 := bl_le_of (n := z) (k := 8) hz
    rw [tab_ix (of_decide_eq_true (by kernel_rfl)) (by kernel_rfl) hz]
    simp (maxSteps := 1000000) (disch := (first | omega | (simp only [lnA, List.length_map, List.length_range, true_and, and_true]; (try omega); done) | fail)) only [go_sem, Int.reduceEq, Int.reduceToNat, Nat.reduceAdd, Nat.reduceMul, Nat.reduceEqDiff, ↓reduceIte]
    exact endW [] hQ
end Go.Proofs.YteookgjmohokiaaGreat
