import Derived.Test.YtakajkgondadiaaNe
import Derived.Test.YtakajkgondadiaaLb
/-! LogsNear. -/
namespace Go.Proofs.Ytakajkgondadiaa
open Go.Eng Go.Vx
set_option linter.unusedSimpArgs false
set_option linter.unusedVariables false
set_option maxRecDepth 100000
theorem pow_lt_of {a b c : Nat} (h : 2 ^ a < 2 ^ (b * c)) : a < b * c := (Nat.pow_lt_pow_iff_right (by decide)).1 h
theorem near_plain {N X L k M : Nat} (hM : 0 < M) (h1 : 2 ^ L ≤ X ^ M) (h2 : X ^ M < 2 ^ (L + 2)) (h3 : 2 ^ k ≤ X) (h4 : X < 2 ^ (k + 1)) : L < (k + 1) * M ∧ k * M < L + 2 := by
  constructor
  · refine (Nat.pow_lt_pow_iff_right (a := 2) (by decide)).1 (Nat.lt_of_le_of_lt h1 ?_)
    rw [Nat.pow_mul]
    exact Nat.pow_lt_pow_left h4 (by omega)
  · refine (Nat.pow_lt_pow_iff_right (a := 2) (by decide)).1 (Nat.lt_of_le_of_lt ?_ h2)
    rw [Nat.pow_mul]
    exact Nat.pow_le_pow_left h3 M
theorem near_spec {N : Nat} (h1 : 1 ≤ N) (h2 : N ≤ 1048576) : 1 ≤ bl (N ^ 256) ∧ bl (N ^ 256) ≤ 5500 ∧ lgN N < bl (N ^ 256) * 1048576 ∧ (bl (N ^ 256) - 1) * 1048576 < lgN N + 2 := by
  have hp : 0 < N ^ 256 := Nat.pow_pos h1
  have hb := bl_pos (n := N ^ 256) (by omega)
  obtain ⟨e1, e2⟩ := lgN_near (n := N) h1 (by omega)
  obtain ⟨M, hM⟩ : ∃ M : Nat, M = 1048576 := ⟨_, rfl⟩
  have hd : D28 = 256 * M := by rw [hM]; rfl
  rw [hd, Nat.pow_mul] at e1 e2
  have h3 := bl_le (n := N ^ 256) (by omega)
  have h4 := bl_lt (N ^ 256)
  have h5 := pow_bl_le N 256
  have h6 := bl_le_of (n := N) (k := 21) (by omega)
  obtain ⟨k, hk⟩ : ∃ k, bl (N ^ 256) = k + 1 := ⟨bl (N ^ 256) - 1, by omega⟩
  rw [hk] at h3 h4 h5 hb ⊢
  have h7 := near_plain (N := N) (X := N ^ 256) (L := lgN N) (k := k) (M := M) (by omega) e1 e2 h3 h4
  rw [hM] at h7
  exact ⟨hb, by omega, h7.1, h7.2⟩
theorem logsNear_fn {n : Int} : Fn1 Try.prog 6 [.lit (.int .i64 n)] [] (.lit (.bool true)) [] := by
  obtain ⟨N, hN⟩ : ∃ m : Nat, max 1 (min n 1048576) = (m : Int) := ⟨(max 1 (min n 1048576)).toNat, by omega⟩
  have hN1 : 1 ≤ N := by omega
  have hN2 : N ≤ 1048576 := by omega
  obtain ⟨q1, q2, q3, q4⟩ := near_spec hN1 hN2
  have hbN := bl_le_of (n := N) (k := 21) (by omega)
  have hlg := log2n_fn (N := N) hN1 (by omega)
  have hpow := npow_fn (a := N) (n := 256) (by omega) (by omega) (fun _ => by omega)
  generalize hX : N ^ 256 = X at *
  have hbits := bits_fn (n := X) (Nat.le_trans (wg_bl (k := 100) (by omega)) (by decide))
  generalize lgN N = L at *
  generalize bl X = k at *
  refine fn1_of pl6 (by kernel_rfl) Try.call6 Try.func6 rfl (by kernel_rfl) rfl [.tmp 2] (by kernel_rfl) fun Q hQ => ?_
  simp (maxSteps := 1000000) (disch := (first | omega | (simp only [List.length_append, List.length_set, List.length_cons, List.length_nil, List.length_replicate, List.length_take, List.length_drop, List.length_map, List.length_range, true_and, and_true]; (try omega); done) | fail)) only [go_sem, Int.reduceEq, Int.reduceToNat, Nat.reduceAdd, Nat.reduceMul, Nat.reduceEqDiff, ↓reduceIte]
  refine callV0 (awake08_fn) rfl rfl ?_
  simp (maxSteps := 1000000) (disch := (first | omega | (simp only [List.length_append, List.length_set, List.length_cons, List.length_nil, List.length_replicate, List.length_take, List.length_drop, List.length_map, List.length_range, true_and, and_true]; (try omega); done) | fail)) only [go_sem, hN, Int.reduceEq, Int.reduceToNat, Nat.reduceAdd, Nat.reduceMul, Nat.reduceEqDiff, ↓reduceIte]
  refine callW [] [0] (of1_fn (x := N) (by omega)) ?_
  simp (maxSteps := 1000000) (disch := (first | omega | (simp only [List.length_append, List.length_set, List.length_cons, List.length_nil, List.length_replicate, List.length_take, List.length_drop, List.length_map, List.length_range, true_and, and_true]; (try omega); done) | fail)) only [go_sem, Int.reduceEq, Int.reduceToNat, Nat.reduceAdd, Nat.reduceMul, Nat.reduceEqDiff, ↓reduceIte]
  refine callV0 (hpow) rfl rfl ?_
  simp (maxSteps := 1000000) (disch := (first | omega | (simp only [List.length_append, List.length_set, List.length_cons, List.length_nil, List.length_replicate, List.length_take, List.length_drop, List.length_map, List.length_range, true_and, and_true]; (try omega); done) | fail)) only [go_sem, Int.reduceEq, Int.reduceToNat, Nat.reduceAdd, Nat.reduceMul, Nat.reduceEqDiff, ↓reduceIte]
  refine callV0 (hbits) rfl rfl ?_
  simp (maxSteps := 1000000) (disch := (first | omega | (simp only [List.length_append, List.length_set, List.length_cons, List.length_nil, List.length_replicate, List.length_take, List.length_drop, List.length_map, List.length_range, true_and, and_true]; (try omega); done) | fail)) only [go_sem, Int.reduceEq, Int.reduceToNat, Nat.reduceAdd, Nat.reduceMul, Nat.reduceEqDiff, ↓reduceIte]
  refine callV0 (hlg) rfl rfl ?_
  simp (maxSteps := 1000000) (disch := (first | omega | (simp only [List.length_append, List.length_set, List.length_cons, List.length_nil, List.length_replicate, List.length_take, List.length_drop, List.length_map, List.length_range, true_and, and_true]; (try omega); done) | fail)) only [go_sem, decide_eq_true (show (L : Int) / 1048576 ≤ (k : Int) - 1 by omega), decide_eq_true (show (k : Int) - 1 ≤ ((L : Int) + 2) / 1048576 by omega), Int.reduceEq, Int.reduceToNat, Nat.reduceAdd, Nat.reduceMul, Nat.reduceEqDiff, ↓reduceIte]
  exact endW [] hQ
end Go.Proofs.Ytakajkgondadiaa
