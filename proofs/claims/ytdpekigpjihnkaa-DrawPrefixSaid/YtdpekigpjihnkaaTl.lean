import Derived.Test.YtdpekigpjihnkaaTk
import Derived.Test.YtdpekigpjihnkaaTe
/-! DrawPrefix: the law. -/
namespace Go.Proofs.Ytdpekigpjihnkaa
open Go.Eng Go.Vx
set_option linter.unusedSimpArgs false
set_option linter.unusedVariables false
set_option maxRecDepth 100000
theorem drawPrefix_fn {L0 M0 : List Bool} {a b : Int} (hL0 : L0.length ≤ 9223372036854775807) (hM0 : M0.length ≤ 9223372036854775807) : Fn1 Try.prog 11 [.row 1 (L0.map be), .row 1 (M0.map be), .agg [.lit (.int .i64 a), .lit (.int .i64 b)]] [] (.lit (.bool true)) [] := by
  obtain ⟨m, hm⟩ : ∃ m : Nat, a % 1048576 = (m : Int) := ⟨(a % 1048576).toNat, by omega⟩
  obtain ⟨Y, hYe⟩ : ∃ m : Nat, b % 16 = (m : Int) := ⟨(b % 16).toNat, by omega⟩
  have hN : 1 + a % 1048576 = ((m + 1 : Nat) : Int) := by omega
  have hm16 : m < 1048576 := by omega
  have hY : Y ≤ 15 := by omega
  refine fn1_of pl11 (by kernel_rfl) Try.call11 Try.func11 rfl (by kernel_rfl) rfl [.tmp 6] (by kernel_rfl) fun Q hQ => ?_
  simp (maxSteps := 1000000) (disch := (first | omega | (simp only [List.length_append, List.length_set, List.length_cons, List.length_nil, List.length_replicate, List.length_take, List.length_drop, List.length_map, List.length_range, true_and, and_true]; (try omega); done) | fail)) only [go_sem, Int.reduceEq, Int.reduceToNat, Nat.reduceAdd, Nat.reduceMul, Nat.reduceEqDiff, ↓reduceIte]
  refine callV0 (awake11_fn) rfl rfl ?_
  simp (maxSteps := 1000000) (disch := (first | omega | (simp only [List.length_append, List.length_set, List.length_cons, List.length_nil, List.length_replicate, List.length_take, List.length_drop, List.length_map, List.length_range, true_and, and_true]; (try omega); done) | fail)) only [go_sem, Int.reduceEq, Int.reduceToNat, Nat.reduceAdd, Nat.reduceMul, Nat.reduceEqDiff, ↓reduceIte]
  refine callV0 (few9_fn (n := 200) hL0 (by decide)) rfl rfl ?_
  simp (maxSteps := 1000000) (disch := (first | omega | (simp only [List.length_append, List.length_set, List.length_cons, List.length_nil, List.length_replicate, List.length_take, List.length_drop, List.length_map, List.length_range, true_and, and_true]; (try omega); done) | fail)) only [go_sem, Int.reduceEq, Int.reduceToNat, Nat.reduceAdd, Nat.reduceMul, Nat.reduceEqDiff, ↓reduceIte]
  refine callV0 (few9_fn (n := 50) hM0 (by decide)) rfl rfl ?_
  have hL : (L0.take 200).length ≤ 200 := by simp; omega
  have hM : (M0.take 50).length ≤ 50 := by simp; omega
  generalize L0.take 200 = L at *
  generalize M0.take 50 = M at *
  generalize hn : m + 1 = n at *
  simp (maxSteps := 1000000) (disch := (first | omega | (simp only [List.length_append, List.length_set, List.length_cons, List.length_nil, List.length_replicate, List.length_take, List.length_drop, List.length_map, List.length_range, true_and, and_true]; (try omega); done) | fail)) only [go_sem, hN, hYe, Int.reduceEq, Int.reduceToNat, Nat.reduceAdd, Nat.reduceMul, Nat.reduceEqDiff, ↓reduceIte]
  refine callW [some 2, some 1] [] (play_fn (L := L) (n := n) (Y := Y) (by omega) (by omega) (by omega) hY) ?_
  rcases playX_cases (L := L) (n := n) (Y := Y) (by omega) hY with ⟨e1, e2⟩ | ⟨x, c, q, hb, hq, hx, hc, hcc, e⟩
  · rw [e1, e2]
    simp (maxSteps := 1000000) (disch := (first | omega | (simp only [List.length_append, List.length_set, List.length_cons, List.length_nil, List.length_replicate, List.length_take, List.length_drop, List.length_map, List.length_range, true_and, and_true]; (try omega); done) | fail)) only [go_sem, decide_true, Int.reduceEq, Int.reduceToNat, Nat.reduceAdd, Nat.reduceMul, Nat.reduceEqDiff, ↓reduceIte]
    exact endW [] hQ
  · rw [e]
    have hp1 := playX_pre (R := M) (by omega) hY e
    have hf1 := playX_few (by omega) hY e
    dsimp only
    generalize hk : q + Y = k at *
    have hl : (L.take k ++ M).length ≤ 1048576 := by rw [List.length_append, List.length_take]; omega
    have hpl := play_fn (L := L.take k ++ M) (n := n) (Y := Y) hl (by omega) (by omega) hY
    rw [hp1] at hpl
    dsimp only at hpl
    have hv : x * 256 + c < 9223372036854775808 := by omega
    have hv1 : (x * 256 + c) / 256 = x := by omega
    have hv2 : (x * 256 + c) % 256 = c := by omega
    generalize x * 256 + c = v at *
    simp (maxSteps := 1000000) (disch := (first | omega | (simp only [List.length_append, List.length_set, List.length_cons, List.length_nil, List.length_replicate, List.length_take, List.length_drop, List.length_map, List.length_range, true_and, and_true]; (try omega); done) | fail)) only [go_sem, decide_true, Int.reduceEq, Int.reduceToNat, Nat.reduceAdd, Nat.reduceMul, Nat.reduceEqDiff, ↓reduceIte]
    refine callW [some 2, some 1] [5] (hpl) ?_
    have hd1 : decide ((n : Int) ≤ (v : Int) / 256) = false := decide_eq_false (by omega)
    have hd2 : decide ((Y : Int) < (v : Int) % 256) = false := decide_eq_false (by omega)
    by_cases hk0 : 0 < k
    · have hk1 : (k : Int) - 1 = ((k - 1 : Nat) : Int) := by omega
      have hpf := play_fn (L := L.take (k - 1)) (n := n) (Y := Y) (by rw [List.length_take]; omega) (by omega) (by omega) hY
      rw [hf1 hk0] at hpf
      simp (maxSteps := 1000000) (disch := (first | omega | (simp only [List.length_append, List.length_set, List.length_cons, List.length_nil, List.length_replicate, List.length_take, List.length_drop, List.length_map, List.length_range, true_and, and_true]; (try omega); done) | fail)) only [go_sem, decide_true, hd1, hd2, hk1, Int.reduceEq, Int.reduceToNat, Nat.reduceAdd, Nat.reduceMul, Nat.reduceEqDiff, ↓reduceIte]
      refine callW [some 2, some 1] [] (hpf) ?_
      simp (maxSteps := 1000000) (disch := (first | omega | (simp only [List.length_append, List.length_set, List.length_cons, List.length_nil, List.length_replicate, List.length_take, List.length_drop, List.length_map, List.length_range, true_and, and_true]; (try omega); done) | fail)) only [go_sem, decide_true, Int.reduceEq, Int.reduceToNat, Nat.reduceAdd, Nat.reduceMul, Nat.reduceEqDiff, ↓reduceIte]
      exact endW [] hQ
    · simp (maxSteps := 1000000) (disch := (first | omega | (simp only [List.length_append, List.length_set, List.length_cons, List.length_nil, List.length_replicate, List.length_take, List.length_drop, List.length_map, List.length_range, true_and, and_true]; (try omega); done) | fail)) only [go_sem, decide_true, hd1, hd2, Int.reduceEq, Int.reduceToNat, Nat.reduceAdd, Nat.reduceMul, Nat.reduceEqDiff, ↓reduceIte]
      exact endW [] hQ
end Go.Proofs.Ytdpekigpjihnkaa
