import Derived.Test.YtnfmpphlkalbfaaGreatDoorYxa
import Derived.Test.YtnfmpphlkalbfaaGreatDoorUa
import Derived.Test.YtnfmpphlkalbfaaGreatDoorYw
import Derived.Test.YtnfmpphlkalbfaaGreatDoorN1
import Derived.Lib.Bytealg
/-! whole.Parse. -/
namespace Go.Proofs.YtnfmpphlkalbfaaGreatDoor
open Go.Eng Go.Vx
set_option linter.unusedSimpArgs false
set_option linter.unusedVariables false
set_option maxRecDepth 100000
/-- A text begins with a minus. -/
def mnS (s : List UInt8) : Bool := decide (1 ≤ s.length ∧ s.take 1 = [45])
/-- A text without its minus. -/
def dgS (s : List UInt8) : List UInt8 := if mnS s = true then s.drop 1 else s
theorem mnS_iff {s : List UInt8} : mnS s = true ↔ ∃ t, s = 45 :: t := by
  unfold mnS
  rw [decide_eq_true_iff]
  cases s with
  | nil => simp
  | cons a t => simp
theorem dgS_len (s : List UInt8) : (dgS s).length ≤ s.length := by unfold dgS; split <;> simp
theorem cutm_fn {s : List UInt8} (hs : s.length ≤ 9223372036854775807) : Fn1 Tryz.prog 93 [.lit (.string (bs s)), .lit (.string (bs [45]))] [] (.tup [.lit (.string (bs (dgS s))), .lit (.bool (mnS s))]) [] := by
  have h1 := slHasPrefix_fn (S := s) (p := [45]) hs (by decide)
  rw [show decide (([45] : List UInt8).length ≤ s.length ∧ s.take ([45] : List UInt8).length = [45]) = mnS s from rfl] at h1
  have h2 : Fn1 Tryz.prog 111 [.lit (.string (bs s)), .lit (.string (bs [45]))] [] (.tup [.lit (.string (bs (dgS s))), .lit (.bool (mnS s))]) [] := by
    unfold dgS
    cases hm : mnS s with
    | true =>
      rw [hm] at h1
      have hl : 1 ≤ s.length := (of_decide_eq_true hm).1
      have htk : s.take s.length = s := List.take_length
      rw [if_pos rfl]
      have h45 : (([45] : List UInt8).length : Int) = 1 := rfl
      refine fn1N_of pl111 (by kernel_rfl) Tryz.call111 Tryz.func111 rfl (by kernel_rfl) rfl [.tmp 4, .tmp 5] (by kernel_rfl) fun Q hQ => ?_
      simp (maxSteps := 1000000) (disch := (first | omega | (simp only [lnA, List.length_map, List.length_range, true_and, and_true]; (try omega); done) | fail)) only [go_sem, Int.reduceEq, Int.reduceToNat, Nat.reduceAdd, Nat.reduceMul, Nat.reduceEqDiff, ↓reduceIte]
      refine callV0 (h1) rfl rfl ?_
      simp (maxSteps := 1000000) (disch := (first | omega | (simp only [lnA, List.length_map, List.length_range, true_and, and_true]; (try omega); done) | fail)) only [go_sem, h45, htk, Int.reduceEq, Int.reduceToNat, Nat.reduceAdd, Nat.reduceMul, Nat.reduceEqDiff, ↓reduceIte]
      exact endW [] hQ
    | false =>
      rw [hm] at h1
      rw [if_neg (by decide)]
      refine fn1N_of pl111 (by kernel_rfl) Tryz.call111 Tryz.func111 rfl (by kernel_rfl) rfl [.tmp 4, .tmp 5] (by kernel_rfl) fun Q hQ => ?_
      simp (maxSteps := 1000000) (disch := (first | omega | (simp only [lnA, List.length_map, List.length_range, true_and, and_true]; (try omega); done) | fail)) only [go_sem, Int.reduceEq, Int.reduceToNat, Nat.reduceAdd, Nat.reduceMul, Nat.reduceEqDiff, ↓reduceIte]
      refine callV0 (h1) rfl rfl ?_
      simp (maxSteps := 1000000) (disch := (first | omega | (simp only [lnA, List.length_map, List.length_range, true_and, and_true]; (try omega); done) | fail)) only [go_sem, Int.reduceEq, Int.reduceToNat, Nat.reduceAdd, Nat.reduceMul, Nat.reduceEqDiff, ↓reduceIte]
      exact endW [] hQ
  refine fn1N_of pl93 (by kernel_rfl) Tryz.call93 Tryz.func93 rfl (by kernel_rfl) rfl [.tmp 4, .tmp 5] (by kernel_rfl) fun Q hQ => ?_
  simp (maxSteps := 1000000) (disch := (first | omega | (simp only [lnA, List.length_map, List.length_range, true_and, and_true]; (try omega); done) | fail)) only [go_sem, Int.reduceEq, Int.reduceToNat, Nat.reduceAdd, Nat.reduceMul, Nat.reduceEqDiff, ↓reduceIte]
  refine callV0 (h2) rfl rfl ?_
  simp (maxSteps := 1000000) (disch := (first | omega | (simp only [lnA, List.length_map, List.length_range, true_and, and_true]; (try omega); done) | fail)) only [go_sem, Int.reduceEq, Int.reduceToNat, Nat.reduceAdd, Nat.reduceMul, Nat.reduceEqDiff, ↓reduceIte]
  exact endW [] hQ
/-- The texts that whole numbers have. -/
def okZ (s : List UInt8) : Prop := okT (dgS s) ∧ ¬ (mnS s = true ∧ dgS s = [48])
theorem decS_0 : decS 0 = [48] := by rw [decS_small (by decide)]; rfl
theorem wparse_of {s : List UInt8} (hs : s.length ≤ 2000) : ∃ (z : Int) (e : Int), Fn1 Tryz.prog 63 [.lit (.string (bs s))] [] (.tup [WV z, .lit (.int .i64 e)]) [] ∧
    (okZ s → e = 0 ∧ zS z = s) ∧ (¬ okZ s → e = 4 ∧ z = 0) ∧ (wg z.natAbs).length ≤ 2000 := by
  have hc := cutm_fn (s := s) (by omega)
  have hdl := dgS_len s
  by_cases hok : okT (dgS s)
  · have p := nparse_fn (s := dgS s) (by omega) hok
    have hw : (wg (valD (dgS s))).length ≤ 2000 := Nat.le_trans (wg_len (Nat.lt_of_lt_of_le (valD_lt (List.all_eq_true.1 hok.2.2)) (Nat.pow_le_pow_left (by decide) (dgS s).length))) (by omega)
    have hv := decS_valD hok
    have hz := zero_fn (n := valD (dgS s)) (by omega)
    have wm := fun b => wmake_fn (b := b) (n := valD (dgS s)) (by omega)
    cases hm : mnS s with
    | true =>
      rw [hm] at hc
      have hsm : s = 45 :: dgS s := by
        obtain ⟨t, ht⟩ := mnS_iff.1 hm
        unfold dgS
        rw [if_pos hm, ht]
        rfl
      by_cases h0 : valD (dgS s) = 0
      · have hd48 : dgS s = [48] := by rw [← hv, h0, decS_0]
        refine ⟨0, 4, ?_, fun h => absurd ⟨hm, hd48⟩ h.2, fun _ => ⟨rfl, rfl⟩, by rw [show (0 : Int).natAbs = 0 from rfl, wg_zero]; decide⟩
        rw [decide_eq_true h0] at hz
        rw [WV_zero]
        generalize valD (dgS s) = v at *
        generalize dgS s = D at *
        refine fn1N_of pl63 (by kernel_rfl) Tryz.call63 Tryz.func63 rfl (by kernel_rfl) rfl [.cell 2 29, .tmp 3] (by kernel_rfl) fun Q hQ => ?_
        repeat (first | (refine callV0 (hc) rfl rfl ?_) | (refine callV0 (p) rfl rfl ?_) | (refine callV0 (hz) rfl rfl ?_) | (simp (maxSteps := 1000000) (disch := (first | omega | (simp only [lnA, List.length_map, List.length_range, true_and, and_true]; (try omega); done) | fail)) only [go_sem, decide_true, decide_false, Int.reduceEq, Int.reduceToNat, Nat.reduceAdd, Nat.reduceMul, Nat.reduceEqDiff, ↓reduceIte]))
        exact endW [] hQ
      · have wm := wm true
        refine ⟨sg true (valD (dgS s)), 0, ?_, fun h => ⟨rfl, ?_⟩, fun h => absurd ⟨hok, fun hc => h0 (by rw [hc.2]; rfl)⟩ h, by rw [sg_abs]; exact hw⟩
        · rw [decide_eq_false h0] at hz
          clear hsm hv
          generalize valD (dgS s) = v at *
          generalize dgS s = D at *
          refine fn1N_of pl63 (by kernel_rfl) Tryz.call63 Tryz.func63 rfl (by kernel_rfl) rfl [.cell 2 29, .tmp 3] (by kernel_rfl) fun Q hQ => ?_
          repeat (first | (refine callV0 (hc) rfl rfl ?_) | (refine callV0 (p) rfl rfl ?_) | (refine callV0 (hz) rfl rfl ?_) | (refine callV0 (wm) rfl rfl ?_) | (simp (maxSteps := 1000000) (disch := (first | omega | (simp only [lnA, List.length_map, List.length_range, true_and, and_true]; (try omega); done) | fail)) only [go_sem, decide_true, decide_false, Int.reduceEq, Int.reduceToNat, Nat.reduceAdd, Nat.reduceMul, Nat.reduceEqDiff, ↓reduceIte]))
          exact endW [] hQ
        · unfold zS
          rw [if_pos (by simp [sg]; omega), sg_abs, hv, ← hsm]
    | false =>
      rw [hm] at hc
      have hds : dgS s = s := by unfold dgS; rw [if_neg (by rw [hm]; decide)]
      have wm := wm false
      refine ⟨sg false (valD (dgS s)), 0, ?_, fun h => ⟨rfl, ?_⟩, fun h => absurd ⟨hok, fun hc => by rw [hm] at hc; exact absurd hc.1 (by decide)⟩ h, by rw [sg_abs]; exact hw⟩
      · clear hds hv
        generalize valD (dgS s) = v at *
        generalize dgS s = D at *
        refine fn1N_of pl63 (by kernel_rfl) Tryz.call63 Tryz.func63 rfl (by kernel_rfl) rfl [.cell 2 29, .tmp 3] (by kernel_rfl) fun Q hQ => ?_
        repeat (first | (refine callV0 (hc) rfl rfl ?_) | (refine callV0 (p) rfl rfl ?_) | (refine callV0 (hz) rfl rfl ?_) | (refine callV0 (wm) rfl rfl ?_) | (simp (maxSteps := 1000000) (disch := (first | omega | (simp only [lnA, List.length_map, List.length_range, true_and, and_true]; (try omega); done) | fail)) only [go_sem, decide_true, decide_false, Int.reduceEq, Int.reduceToNat, Nat.reduceAdd, Nat.reduceMul, Nat.reduceEqDiff, ↓reduceIte]))
        exact endW [] hQ
      · unfold zS
        rw [if_neg (by simp [sg]), sg_abs, hv, hds]
  · have p := nparseB_fn (s := dgS s) (by omega) hok
    refine ⟨0, 4, ?_, fun h => absurd h.1 hok, fun _ => ⟨rfl, rfl⟩, by rw [show (0 : Int).natAbs = 0 from rfl, wg_zero]; decide⟩
    rw [WV_zero]
    generalize dgS s = D at *
    generalize mnS s = g at *
    refine fn1N_of pl63 (by kernel_rfl) Tryz.call63 Tryz.func63 rfl (by kernel_rfl) rfl [.cell 2 29, .tmp 3] (by kernel_rfl) fun Q hQ => ?_
    repeat (first | (refine callV0 (hc) rfl rfl ?_) | (refine callV0 (p) rfl rfl ?_) | (simp (maxSteps := 1000000) (disch := (first | omega | (simp only [lnA, List.length_map, List.length_range, true_and, and_true]; (try omega); done) | fail)) only [go_sem, decide_true, decide_false, Int.reduceEq, Int.reduceToNat, Nat.reduceAdd, Nat.reduceMul, Nat.reduceEqDiff, ↓reduceIte]))
    exact endW [] hQ
end Go.Proofs.YtnfmpphlkalbfaaGreatDoor

/-! strings.Cut at a stroke; texts of numbers read back. -/
namespace Go.Proofs.YtnfmpphlkalbfaaGreatDoor
open Go.Eng Go.Vx
set_option linter.unusedSimpArgs false
set_option linter.unusedVariables false
set_option maxRecDepth 100000
/-- What stands before the first stroke, what behind it. -/
def cutA (s : List UInt8) : List UInt8 := s.takeWhile (fun b => b != 47)
def cutB (s : List UInt8) : List UInt8 := (s.dropWhile (fun b => b != 47)).drop 1
def hasL (s : List UInt8) : Bool := s.any (fun b => b == 47)
theorem decS_inj {a b : Nat} (h : decS a = decS b) : a = b := by rw [← valD_decS a, h, valD_decS]
theorem decS_dig {n : Nat} : ∀ b ∈ decS n, isD b = true := List.all_eq_true.1 (decS_ok n).2.2
theorem mn_decS (n : Nat) : mnS (decS n) = false := by
  refine Bool.eq_false_iff.2 fun h => ?_
  obtain ⟨t, ht⟩ := mnS_iff.1 h
  have := decS_dig (n := n) 45 (by rw [ht]; simp)
  exact absurd this (by decide)
theorem mn_zS (z : Int) : mnS (zS z) = decide (z < 0) := by
  unfold zS
  by_cases h : z < 0
  · rw [if_pos h, decide_eq_true h]
    exact mnS_iff.2 ⟨_, rfl⟩
  · rw [if_neg h, decide_eq_false h]
    exact mn_decS _
theorem dg_zS (z : Int) : dgS (zS z) = decS z.natAbs := by
  unfold dgS
  rw [mn_zS]
  unfold zS
  by_cases h : z < 0
  · rw [decide_eq_true h, if_pos rfl, if_pos h]
    rfl
  · rw [decide_eq_false h, if_neg (by decide), if_neg h]
theorem okZ_zS (z : Int) : okZ (zS z) := by
  unfold okZ
  rw [dg_zS, mn_zS]
  refine ⟨decS_ok _, fun ⟨h1, h2⟩ => ?_⟩
  have h1 := of_decide_eq_true h1
  rw [← decS_0] at h2
  have := decS_inj h2
  omega
theorem zS_inj {x y : Int} (h : zS x = zS y) : x = y := by
  have h1 := congrArg dgS h
  have h2 := congrArg mnS h
  rw [dg_zS, dg_zS] at h1
  rw [mn_zS, mn_zS] at h2
  have h1 := decS_inj h1
  by_cases hx : x < 0
  · rw [decide_eq_true hx] at h2
    have := of_decide_eq_true h2.symm
    omega
  · rw [decide_eq_false hx] at h2
    have := of_decide_eq_false h2.symm
    omega
theorem zS_len {z : Int} {k : Nat} (h : (wg z.natAbs).length ≤ k) : (zS z).length ≤ 20 * k + 2 := by
  have := decS_wg h
  unfold zS
  split <;> simp <;> omega
theorem wparse_zS {z : Int} (h : (wg z.natAbs).length ≤ 90) : Fn1 Tryz.prog 63 [.lit (.string (bs (zS z)))] [] (.tup [WV z, .lit (.int .i64 0)]) [] := by
  obtain ⟨y, e, p, k1, -, -⟩ := wparse_of (s := zS z) (by have := zS_len h; omega)
  obtain ⟨rfl, h2⟩ := k1 (okZ_zS z)
  rw [zS_inj h2] at p
  exact p
theorem nparse_decS {n : Nat} (h : (wg n).length ≤ 90) : Fn1 Tryz.prog 65 [.lit (.string (bs (decS n)))] [] (.tup [NV n, .lit (.int .i64 0)]) [] := by
  have p := nparse_fn (s := decS n) (by have := decS_wg h; omega) (decS_ok n)
  rw [valD_decS] at p
  exact p
end Go.Proofs.YtnfmpphlkalbfaaGreatDoor
