import Derived.Test.YthlndppcjcjmlaaGreatDoorN1
import Derived.Lib.Bytealg
import Derived.Test.YthlndppcjcjmlaaGreatDoorUg
/-! strings.Cut at a stroke; texts of numbers read back. -/
namespace Go.Proofs.YthlndppcjcjmlaaGreatDoor
open Go.Eng Go.Vx
set_option linter.unusedSimpArgs false
set_option linter.unusedVariables false
set_option maxRecDepth 100000
/-- What stands before the first stroke, what behind it. -/
def cutA (s : List UInt8) : List UInt8 := s.takeWhile (fun b => b != 47)
def cutB (s : List UInt8) : List UInt8 := (s.dropWhile (fun b => b != 47)).drop 1
def hasL (s : List UInt8) : Bool := s.any (fun b => b == 47)
theorem decS_inj {a b : Nat} (h : decS a = decS b) : a = b := by rw [← valD_decS a, h, valD_decS]
theorem decS_dig {n : Nat} : ∀ b ∈ decS n, isD b = true := List.all_eq_true.1 (decS_ok n).2.2
theorem mn_decS (n : Nat) : mnS (decS n) = false := by
  refine Bool.eq_false_iff.2 fun h => ?_
  obtain ⟨t, ht⟩ := mnS_iff.1 h
  have := decS_dig (n := n) 45 (by rw [ht]; simp)
  exact absurd this (by decide)
theorem mn_zS (z : Int) : mnS (zS z) = decide (z < 0) := by
  unfold zS
  by_cases h : z < 0
  · rw [if_pos h, decide_eq_true h]
    exact mnS_iff.2 ⟨_, rfl⟩
  · rw [if_neg h, decide_eq_false h]
    exact mn_decS _
theorem dg_zS (z : Int) : dgS (zS z) = decS z.natAbs := by
  unfold dgS
  rw [mn_zS]
  unfold zS
  by_cases h : z < 0
  · rw [decide_eq_true h, if_pos rfl, if_pos h]
    rfl
  · rw [decide_eq_false h, if_neg (by decide), if_neg h]
theorem okZ_zS (z : Int) : okZ (zS z) := by
  unfold okZ
  rw [dg_zS, mn_zS]
  refine ⟨decS_ok _, fun ⟨h1, h2⟩ => ?_⟩
  have h1 := of_decide_eq_true h1
  rw [← decS_0] at h2
  have := decS_inj h2
  omega
theorem zS_inj {x y : Int} (h : zS x = zS y) : x = y := by
  have h1 := congrArg dgS h
  have h2 := congrArg mnS h
  rw [dg_zS, dg_zS] at h1
  rw [mn_zS, mn_zS] at h2
  have h1 := decS_inj h1
  by_cases hx : x < 0
  · rw [decide_eq_true hx] at h2
    have := of_decide_eq_true h2.symm
    omega
  · rw [decide_eq_false hx] at h2
    have := of_decide_eq_false h2.symm
    omega
theorem zS_len {z : Int} {k : Nat} (h : (wg z.natAbs).length ≤ k) : (zS z).length ≤ 20 * k + 2 := by
  have := decS_wg h
  unfold zS
  split <;> simp <;> omega
theorem wparse_zS {z : Int} (h : (wg z.natAbs).length ≤ 90) : Fn1 Tryz.prog 33 [.lit (.string (bs (zS z)))] [] (.tup [WV z, .lit (.int .i64 0)]) [] := by
  obtain ⟨y, e, p, k1, -, -⟩ := wparse_of (s := zS z) (by have := zS_len h; omega)
  obtain ⟨rfl, h2⟩ := k1 (okZ_zS z)
  rw [zS_inj h2] at p
  exact p
end Go.Proofs.YthlndppcjcjmlaaGreatDoor
