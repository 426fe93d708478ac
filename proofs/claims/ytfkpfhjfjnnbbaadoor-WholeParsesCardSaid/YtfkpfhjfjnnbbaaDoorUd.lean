import Derived.Test.YtfkpfhjfjnnbbaaDoorYx
import Derived.Test.YtfkpfhjfjnnbbaaDoorUb
/-! whole.Parse; WholeParses. -/
namespace Go.Proofs.YtfkpfhjfjnnbbaaDoor
open Go.Eng Go.Vx
set_option linter.unusedSimpArgs false
set_option linter.unusedVariables false
set_option maxRecDepth 100000
/-- A text begins with a minus. -/
def mnS (s : List UInt8) : Bool := decide (1 ≤ s.length ∧ s.take 1 = [45])
/-- A text without its minus. -/
def dgS (s : List UInt8) : List UInt8 := if mnS s = true then s.drop 1 else s
theorem mnS_iff {s : List UInt8} : mnS s = true ↔ ∃ t, s = 45 :: t := by
  unfold mnS
  rw [decide_eq_true_iff]
  cases s with
  | nil => simp
  | cons a t => simp
theorem dgS_len (s : List UInt8) : (dgS s).length ≤ s.length := by unfold dgS; split <;> simp
theorem cutm_fn {s : List UInt8} (hs : s.length ≤ 9223372036854775807) : Fn1 Tryd.prog 81 [.lit (.string (bs s)), .lit (.string (bs [45]))] [] (.tup [.lit (.string (bs (dgS s))), .lit (.bool (mnS s))]) [] := by
  have h1 := slHasPrefix_fn (S := s) (p := [45]) hs (by decide)
  rw [show decide (([45] : List UInt8).length ≤ s.length ∧ s.take ([45] : List UInt8).length = [45]) = mnS s from rfl] at h1
  have h2 : Fn1 Tryd.prog 101 [.lit (.string (bs s)), .lit (.string (bs [45]))] [] (.tup [.lit (.string (bs (dgS s))), .lit (.bool (mnS s))]) [] := by
    unfold dgS
    cases hm : mnS s with
    | true =>
      rw [hm] at h1
      have hl : 1 ≤ s.length := (of_decide_eq_true hm).1
      have htk : s.take s.length = s := List.take_length
      rw [if_pos rfl]
      have h45 : (([45] : List UInt8).length : Int) = 1 := rfl
      refine fn1N_of pl101 (by kernel_rfl) Tryd.call101 Tryd.func101 rfl (by kernel_rfl) rfl [.tmp 4, .tmp 5] (by kernel_rfl) fun Q hQ => ?_
      simp (maxSteps := 1000000) (disch := (first | omega | (simp only [lnA, List.length_map, List.length_range, true_and, and_true]; (try omega); done) | fail)) only [go_sem, Int.reduceEq, Int.reduceToNat, Nat.reduceAdd, Nat.reduceMul, Nat.reduceEqDiff, ↓reduceIte]
      refine callV0 (h1) rfl rfl ?_
      simp (maxSteps := 1000000) (disch := (first | omega | (simp only [lnA, List.length_map, List.length_range, true_and, and_true]; (try omega); done) | fail)) only [go_sem, h45, htk, Int.reduceEq, Int.reduceToNat, Nat.reduceAdd, Nat.reduceMul, Nat.reduceEqDiff, ↓reduceIte]
      exact endW [] hQ
    | false =>
      rw [hm] at h1
      rw [if_neg (by decide)]
      refine fn1N_of pl101 (by kernel_rfl) Tryd.call101 Tryd.func101 rfl (by kernel_rfl) rfl [.tmp 4, .tmp 5] (by kernel_rfl) fun Q hQ => ?_
      simp (maxSteps := 1000000) (disch := (first | omega | (simp only [lnA, List.length_map, List.length_range, true_and, and_true]; (try omega); done) | fail)) only [go_sem, Int.reduceEq, Int.reduceToNat, Nat.reduceAdd, Nat.reduceMul, Nat.reduceEqDiff, ↓reduceIte]
      refine callV0 (h1) rfl rfl ?_
      simp (maxSteps := 1000000) (disch := (first | omega | (simp only [lnA, List.length_map, List.length_range, true_and, and_true]; (try omega); done) | fail)) only [go_sem, Int.reduceEq, Int.reduceToNat, Nat.reduceAdd, Nat.reduceMul, Nat.reduceEqDiff, ↓reduceIte]
      exact endW [] hQ
  refine fn1N_of pl81 (by kernel_rfl) Tryd.call81 Tryd.func81 rfl (by kernel_rfl) rfl [.tmp 4, .tmp 5] (by kernel_rfl) fun Q hQ => ?_
  simp (maxSteps := 1000000) (disch := (first | omega | (simp only [lnA, List.length_map, List.length_range, true_and, and_true]; (try omega); done) | fail)) only [go_sem, Int.reduceEq, Int.reduceToNat, Nat.reduceAdd, Nat.reduceMul, Nat.reduceEqDiff, ↓reduceIte]
  refine callV0 (h2) rfl rfl ?_
  simp (maxSteps := 1000000) (disch := (first | omega | (simp only [lnA, List.length_map, List.length_range, true_and, and_true]; (try omega); done) | fail)) only [go_sem, Int.reduceEq, Int.reduceToNat, Nat.reduceAdd, Nat.reduceMul, Nat.reduceEqDiff, ↓reduceIte]
  exact endW [] hQ
/-- The texts that whole numbers have. -/
def okZ (s : List UInt8) : Prop := okT (dgS s) ∧ ¬ (mnS s = true ∧ dgS s = [48])
theorem decS_0 : decS 0 = [48] := by rw [decS_small (by decide)]; rfl
theorem wparse_of {s : List UInt8} (hs : s.length ≤ 2000) : ∃ (z : Int) (e : Int), Fn1 Tryd.prog 60 [.lit (.string (bs s))] [] (.tup [WV z, .lit (.int .i64 e)]) [] ∧
    (okZ s → e = 0 ∧ zS z = s) ∧ (¬ okZ s → e = 4 ∧ z = 0) ∧ (wg z.natAbs).length ≤ 2000 := by
  have hc := cutm_fn (s := s) (by omega)
  have hdl := dgS_len s
  by_cases hok : okT (dgS s)
  · have p := nparse_fn (s := dgS s) (by omega) hok
    have hw : (wg (valD (dgS s))).length ≤ 2000 := Nat.le_trans (wg_len (Nat.lt_of_lt_of_le (valD_lt (List.all_eq_true.1 hok.2.2)) (Nat.pow_le_pow_left (by decide) (dgS s).length))) (by omega)
    have hv := decS_valD hok
    have hz := zero_fn (n := valD (dgS s)) (by omega)
    have wm := fun b => wmake_fn (b := b) (n := valD (dgS s)) (by omega)
    cases hm : mnS s with
    | true =>
      rw [hm] at hc
      have hsm : s = 45 :: dgS s := by
        obtain ⟨t, ht⟩ := mnS_iff.1 hm
        unfold dgS
        rw [if_pos hm, ht]
        rfl
      by_cases h0 : valD (dgS s) = 0
      · have hd48 : dgS s = [48] := by rw [← hv, h0, decS_0]
        refine ⟨0, 4, ?_, fun h => absurd ⟨hm, hd48⟩ h.2, fun _ => ⟨rfl, rfl⟩, by rw [show (0 : Int).natAbs = 0 from rfl, wg_zero]; decide⟩
        rw [decide_eq_true h0] at hz
        rw [WV_zero]
        generalize valD (dgS s) = v at *
        generalize dgS s = D at *
        refine fn1N_of pl60 (by kernel_rfl) Tryd.call60 Tryd.func60 rfl (by kernel_rfl) rfl [.cell 2 60, .tmp 3] (by kernel_rfl) fun Q hQ => ?_
        repeat (first | (refine callV0 (hc) rfl rfl ?_) | (refine callV0 (p) rfl rfl ?_) | (refine callV0 (hz) rfl rfl ?_) | (simp (maxSteps := 1000000) (disch := (first | omega | (simp only [lnA, List.length_map, List.length_range, true_and, and_true]; (try omega); done) | fail)) only [go_sem, decide_true, decide_false, Int.reduceEq, Int.reduceToNat, Nat.reduceAdd, Nat.reduceMul, Nat.reduceEqDiff, ↓reduceIte]))
        exact endW [] hQ
      · have wm := wm true
        refine ⟨sg true (valD (dgS s)), 0, ?_, fun h => ⟨rfl, ?_⟩, fun h => absurd ⟨hok, fun hc => h0 (by rw [hc.2]; rfl)⟩ h, by rw [sg_abs]; exact hw⟩
        · rw [decide_eq_false h0] at hz
          clear hsm hv
          generalize valD (dgS s) = v at *
          generalize dgS s = D at *
          refine fn1N_of pl60 (by kernel_rfl) Tryd.call60 Tryd.func60 rfl (by kernel_rfl) rfl [.cell 2 60, .tmp 3] (by kernel_rfl) fun Q hQ => ?_
          repeat (first | (refine callV0 (hc) rfl rfl ?_) | (refine callV0 (p) rfl rfl ?_) | (refine callV0 (hz) rfl rfl ?_) | (refine callV0 (wm) rfl rfl ?_) | (simp (maxSteps := 1000000) (disch := (first | omega | (simp only [lnA, List.length_map, List.length_range, true_and, and_true]; (try omega); done) | fail)) only [go_sem, decide_true, decide_false, Int.reduceEq, Int.reduceToNat, Nat.reduceAdd, Nat.reduceMul, Nat.reduceEqDiff, ↓reduceIte]))
          exact endW [] hQ
        · unfold zS
          rw [if_pos (by simp [sg]; omega), sg_abs, hv, ← hsm]
    | false =>
      rw [hm] at hc
      have hds : dgS s = s := by unfold dgS; rw [if_neg (by rw [hm]; decide)]
      have wm := wm false
      refine ⟨sg false (valD (dgS s)), 0, ?_, fun h => ⟨rfl, ?_⟩, fun h => absurd ⟨hok, fun hc => by rw [hm] at hc; exact absurd hc.1 (by decide)⟩ h, by rw [sg_abs]; exact hw⟩
      · clear hds hv
        generalize valD (dgS s) = v at *
        generalize dgS s = D at *
        refine fn1N_of pl60 (by kernel_rfl) Tryd.call60 Tryd.func60 rfl (by kernel_rfl) rfl [.cell 2 60, .tmp 3] (by kernel_rfl) fun Q hQ => ?_
        repeat (first | (refine callV0 (hc) rfl rfl ?_) | (refine callV0 (p) rfl rfl ?_) | (refine callV0 (hz) rfl rfl ?_) | (refine callV0 (wm) rfl rfl ?_) | (simp (maxSteps := 1000000) (disch := (first | omega | (simp only [lnA, List.length_map, List.length_range, true_and, and_true]; (try omega); done) | fail)) only [go_sem, decide_true, decide_false, Int.reduceEq, Int.reduceToNat, Nat.reduceAdd, Nat.reduceMul, Nat.reduceEqDiff, ↓reduceIte]))
        exact endW [] hQ
      · unfold zS
        rw [if_neg (by simp [sg]), sg_abs, hv, hds]
  · have p := nparseB_fn (s := dgS s) (by omega) hok
    refine ⟨0, 4, ?_, fun h => absurd h.1 hok, fun _ => ⟨rfl, rfl⟩, by rw [show (0 : Int).natAbs = 0 from rfl, wg_zero]; decide⟩
    rw [WV_zero]
    generalize dgS s = D at *
    generalize mnS s = g at *
    refine fn1N_of pl60 (by kernel_rfl) Tryd.call60 Tryd.func60 rfl (by kernel_rfl) rfl [.cell 2 60, .tmp 3] (by kernel_rfl) fun Q hQ => ?_
    repeat (first | (refine callV0 (hc) rfl rfl ?_) | (refine callV0 (p) rfl rfl ?_) | (simp (maxSteps := 1000000) (disch := (first | omega | (simp only [lnA, List.length_map, List.length_range, true_and, and_true]; (try omega); done) | fail)) only [go_sem, decide_true, decide_false, Int.reduceEq, Int.reduceToNat, Nat.reduceAdd, Nat.reduceMul, Nat.reduceEqDiff, ↓reduceIte]))
    exact endW [] hQ
theorem mn_head {s : List UInt8} (h0 : s ≠ []) (hm : mnS s = false) : decide (((s.getD 0 0).toNat : Int) = 45) = false := by
  refine decide_eq_false fun e => ?_
  cases s with
  | nil => exact h0 rfl
  | cons a tl =>
    have h1 : a.toNat = 45 := by
      have e : ((a.toNat : Nat) : Int) = 45 := e
      omega
    have : mnS (a :: tl) = true := mnS_iff.2 ⟨tl, by rw [show a = 45 from UInt8.toNat_inj.1 h1]⟩
    rw [hm] at this
    cases this
theorem zS_0 : zS 0 = [48] := by unfold zS; rw [if_neg (by decide), show (0 : Int).natAbs = 0 from rfl, decS_0]
set_option maxHeartbeats 8000000 in
theorem wholeParses_fn {s0 : List UInt8} (hs : s0.length ≤ 9223372036854775807) :
    Fn1 Tryd.prog 12 [.lit (.string (bs s0))] [] (.lit (.bool true)) [] := by
  obtain ⟨s, hss, hsl⟩ : ∃ s, (if 1500 < s0.length then s0.take 1500 else s0) = s ∧ s.length ≤ 1500 := ⟨_, rfl, by by_cases h : 1500 < s0.length <;> simp [h] <;> omega⟩
  obtain ⟨z, e, p, k1, k2, lz⟩ := wparse_of (s := s) (by omega)
  have t := wtext_fn (x := z) (by omega)
  obtain ⟨D, hD⟩ : ∃ D, dgS s = D := ⟨_, rfl⟩
  obtain ⟨g, hg0⟩ : ∃ g, mnS s = g := ⟨_, rfl⟩
  have hDl : D.length ≤ 1500 := by rw [← hD]; exact Nat.le_trans (dgS_len s) hsl
  obtain ⟨q, hq⟩ : ∃ q, decide (D = [48]) = q := ⟨_, rfl⟩
  obtain ⟨b0, hb0⟩ : ∃ b0, (okH D && !(g && q)) = b0 := ⟨_, rfl⟩
  have hok : okZ s ↔ (b0 && D.all isD) = true := by
    unfold okZ
    rw [okT_iff, hD, hg0, ← hb0, ← hq]
    cases okH D <;> cases g <;> cases D.all isD <;> simp
  have hi : ∀ b : Bool, (b && (D.take 0).all isD) = b := fun b => by simp
  have hnx : ∀ i, i < D.length → (b0 && (D.take (i + 1)).all isD) = ((b0 && (D.take i).all isD) && isD (D.getD i 0)) := fun i h => by
    rw [List.take_succ_eq_append_getElem h, List.all_append, ← Bool.and_assoc]
    simp [List.getD_eq_getElem?_getD, h]
  have htk : s.take s.length = s := List.take_length
  refine fn1N_of pl12 (by kernel_rfl) Tryd.call12 Tryd.func12 rfl (by kernel_rfl) rfl [.tmp 2] (by kernel_rfl) fun Q hQ => ?_
  apply joinV
  case f =>
    intro body
    by_cases hcut : 1500 < s0.length
    case' pos =>
      have hss2 : s0.take 1500 = s := by rw [← hss, if_pos hcut]
      repeat (first | (refine callV0 (awake6_fn) rfl rfl ?_) | (refine callV0 (p) rfl rfl ?_) | (simp (maxSteps := 1000000) (disch := (first | omega | (simp only [lnA, List.length_map, List.length_range, true_and, and_true]; (try omega); done) | fail)) only [go_sem, eq_self, decide_true, decide_false, hss2, Int.reduceEq, Int.reduceToNat, Nat.reduceAdd, Nat.reduceMul, Nat.reduceEqDiff, ↓reduceIte]))
    case' neg =>
      have hss2 : s0 = s := by rw [← hss, if_neg hcut]
      rw [hss2]
      repeat (first | (refine callV0 (awake6_fn) rfl rfl ?_) | (refine callV0 (p) rfl rfl ?_) | (simp (maxSteps := 1000000) (disch := (first | omega | (simp only [lnA, List.length_map, List.length_range, true_and, and_true]; (try omega); done) | fail)) only [go_sem, eq_self, decide_true, decide_false, Int.reduceEq, Int.reduceToNat, Nat.reduceAdd, Nat.reduceMul, Nat.reduceEqDiff, ↓reduceIte]))
    all_goals
      by_cases hm : g = true
      case' pos =>
        have hx : s.drop 1 = D := by
          have hD2 := hD
          unfold dgS at hD2
          rw [hg0, if_pos hm] at hD2
          exact hD2
        obtain ⟨tl, htl⟩ := mnS_iff.1 (hg0.trans hm)
        have hsn : decide (s = []) = false := decide_eq_false (by rw [htl]; simp)
        have hs45 : ((s.getD 0 0).toNat : Int) = 45 := by rw [htl]; rfl
        have hsl1 : s.length ≠ 0 := by rw [htl]; simp
        simp (maxSteps := 1000000) (disch := (first | omega | (simp only [lnA, List.length_map, List.length_range, true_and, and_true]; (try omega); done) | fail)) only [go_sem, hsn, hs45, htk, hx, Int.reduceEq, Int.reduceToNat, Nat.reduceAdd, Nat.reduceMul, Nat.reduceEqDiff, ↓reduceIte]
      case' neg =>
        have hx : s = D := by
          have hD2 := hD
          unfold dgS at hD2
          rw [hg0, if_neg hm] at hD2
          exact hD2
        by_cases hs0 : s = []
        case' pos =>
          simp (maxSteps := 1000000) (disch := (first | omega | (simp only [lnA, List.length_map, List.length_range, true_and, and_true]; (try omega); done) | fail)) only [go_sem, decide_eq_true hs0, Int.reduceEq, Int.reduceToNat, Nat.reduceAdd, Nat.reduceMul, Nat.reduceEqDiff, ↓reduceIte]
          rw [hx]
        case' neg =>
          have hsl1 : s.length ≠ 0 := fun e => hs0 (List.length_eq_zero_iff.1 e)
          have hs45 := mn_head hs0 (hg0.trans (Bool.eq_false_iff.2 hm))
          simp (maxSteps := 1000000) (disch := (first | omega | (simp only [lnA, List.length_map, List.length_range, true_and, and_true]; (try omega); done) | fail)) only [go_sem, decide_eq_false hs0, hs45, Int.reduceEq, Int.reduceToNat, Nat.reduceAdd, Nat.reduceMul, Nat.reduceEqDiff, ↓reduceIte]
          rw [hx]
    all_goals
      by_cases e0 : D = []
      case' pos =>
        have hb : b0 = false := by
          rw [← hb0, show okH D = false from decide_eq_false fun h => h.1 e0]; rfl
        first
        | (exfalso; exact hs0 (hx.trans e0))
        | (simp (maxSteps := 1000000) (disch := (first | omega | (simp only [lnA, List.length_map, List.length_range, true_and, and_true]; (try omega); done) | fail)) only [go_sem, decide_eq_true e0, Int.reduceEq, Int.reduceToNat, Nat.reduceAdd, Nat.reduceMul, Nat.reduceEqDiff, ↓reduceIte])
        | skip
      case' neg =>
        have hl0 : D.length ≠ 0 := fun e => e0 (List.length_eq_zero_iff.1 e)
        by_cases e1 : D.length = 1
        case' pos =>
          have hb : b0 = !(g && q) := by
            rw [← hb0, show okH D = true from decide_eq_true ⟨e0, fun h => by omega⟩]; rfl
          have hd1 : decide ((D.length : Int) = 1) = true := decide_eq_true (by omega)
          first
          | (exfalso; exact e0 (hx.symm.trans hs0))
          | (simp (maxSteps := 1000000) (disch := (first | omega | (simp only [lnA, List.length_map, List.length_range, true_and, and_true]; (try omega); done) | fail)) only [go_sem, decide_eq_false e0, hd1, hq, Int.reduceEq, Int.reduceToNat, Nat.reduceAdd, Nat.reduceMul, Nat.reduceEqDiff, ↓reduceIte])
        case' neg =>
          have hd1 : decide ((D.length : Int) = 1) = false := decide_eq_false (by omega)
          by_cases e2 : D.getD 0 0 = 48
          case' pos =>
            have hb : b0 = false := by
              rw [← hb0, show okH D = false from decide_eq_false fun h => h.2 ⟨by omega, e2⟩]; rfl
            have hg : ((D.getD 0 0).toNat : Int) = 48 := by rw [e2]; rfl
            first
            | (exfalso; exact e0 (hx.symm.trans hs0))
            | (simp (maxSteps := 1000000) (disch := (first | omega | (simp only [lnA, List.length_map, List.length_range, true_and, and_true]; (try omega); done) | fail)) only [go_sem, decide_eq_false e0, hd1, hg, Int.reduceEq, Int.reduceToNat, Nat.reduceAdd, Nat.reduceMul, Nat.reduceEqDiff, ↓reduceIte])
          case' neg =>
            have hb : b0 = !(g && q) := by
              rw [← hb0, show okH D = true from decide_eq_true ⟨e0, fun h => e2 h.2⟩]; rfl
            have hg : decide (((D.getD 0 0).toNat : Int) = 48) = false := decide_eq_false fun e => e2 (UInt8.toNat_inj.1 (by
              have : (D.getD 0 0).toNat = 48 := by omega
              rw [this]; rfl))
            first
            | (exfalso; exact e0 (hx.symm.trans hs0))
            | (simp (maxSteps := 1000000) (disch := (first | omega | (simp only [lnA, List.length_map, List.length_range, true_and, and_true]; (try omega); done) | fail)) only [go_sem, decide_eq_false e0, hd1, hg, hq, Int.reduceEq, Int.reduceToNat, Nat.reduceAdd, Nat.reduceMul, Nat.reduceEqDiff, ↓reduceIte])
    all_goals
      refine LoopV_of (X := Nat) (st := fun i => ([(0, .lit (.string (bs s))), (3, .ref 0 0 0 0), (4, .lit (.int .i64 e)), (5, .lit (.string (bs D))), (7, .lit (.bool (b0 && (D.take i).all isD))), (52, .lit (.int .i64 (D.length : Int))), (53, .lit (.int .i64 (i : Int)))], [some (.cells [.row 1 ((nl (wg z.natAbs)).map (ie .u64)), .lit (.bool (decide (z < 0)))])]))
        (inv := fun i => i ≤ D.length) (m := fun i => D.length - i) 0 [some 0] rfl (by simp (disch := (first | omega | (simp only [lnA, List.length_map, List.length_range, true_and, and_true]; (try omega); done) | fail)) only [go_sem, Int.reduceEq, Int.reduceToNat, Nat.reduceAdd, Nat.reduceMul, Nat.reduceEqDiff, ↓reduceIte, true_and, and_true, and_self, List.drop_zero, List.take_length, Nat.le_refl, V.lit.injEq, Value.int.injEq, Value.bool.injEq]; try (first | omega | (simp; done) | (simp; omega))) ?_ (by omega) body.out
      rw [hi, hb]
      first
      | (rw [hm]; ((simp (disch := (first | omega | (simp only [lnA, List.length_map, List.length_range, true_and, and_true]; (try omega); done) | fail)) only [go_sem, Int.reduceEq, Int.reduceToNat, Nat.reduceAdd, Nat.reduceMul, Nat.reduceEqDiff, ↓reduceIte, true_and, and_true, and_self, List.drop_zero, List.take_length, Nat.le_refl, V.lit.injEq, Value.int.injEq, Value.bool.injEq]; try (first | omega | (simp; done) | (simp; omega)))); done)
      | (rw [hx, Bool.eq_false_iff.2 hm]; ((simp (disch := (first | omega | (simp only [lnA, List.length_map, List.length_range, true_and, and_true]; (try omega); done) | fail)) only [go_sem, Int.reduceEq, Int.reduceToNat, Nat.reduceAdd, Nat.reduceMul, Nat.reduceEqDiff, ↓reduceIte, true_and, and_true, and_self, List.drop_zero, List.take_length, Nat.le_refl, V.lit.injEq, Value.int.injEq, Value.bool.injEq]; try (first | omega | (simp; done) | (simp; omega)))); done)
      | (rw [hx]; ((simp (disch := (first | omega | (simp only [lnA, List.length_map, List.length_range, true_and, and_true]; (try omega); done) | fail)) only [go_sem, Int.reduceEq, Int.reduceToNat, Nat.reduceAdd, Nat.reduceMul, Nat.reduceEqDiff, ↓reduceIte, true_and, and_true, and_self, List.drop_zero, List.take_length, Nat.le_refl, V.lit.injEq, Value.int.injEq, Value.bool.injEq]; try (first | omega | (simp; done) | (simp; omega)))); done)
      | (((simp (disch := (first | omega | (simp only [lnA, List.length_map, List.length_range, true_and, and_true]; (try omega); done) | fail)) only [go_sem, Int.reduceEq, Int.reduceToNat, Nat.reduceAdd, Nat.reduceMul, Nat.reduceEqDiff, ↓reduceIte, true_and, and_true, and_self, List.drop_zero, List.take_length, Nat.le_refl, V.lit.injEq, Value.int.injEq, Value.bool.injEq]; try (first | omega | (simp; done) | (simp; omega)))); done)
  intro i hil
  by_cases h : i < D.length
  · have hnx := hnx i h
    have hc8 := (D.getD i 0).toNat_lt
    have hDD : isD (D.getD i 0) = decide (48 ≤ (D.getD i 0).toNat ∧ (D.getD i 0).toNat ≤ 57) := rfl
    cases hg : (b0 && (D.take i).all isD) with
    | true =>
      rw [hg, Bool.true_and, hDD] at hnx
      by_cases h48 : 48 ≤ (D.getD i 0).toNat
      · by_cases h57 : (D.getD i 0).toNat ≤ 57
        · rw [decide_eq_true ⟨h48, h57⟩] at hnx
          have hd : decide (((D.getD i 0).toNat : Int) ≤ 57) = true := decide_eq_true (by omega)
          simp (maxSteps := 1000000) (disch := (first | omega | (simp only [lnA, List.length_map, List.length_range, true_and, and_true]; (try omega); done) | fail)) only [go_sem, hg, hd, Int.reduceEq, Int.reduceToNat, Nat.reduceAdd, Nat.reduceMul, Nat.reduceEqDiff, ↓reduceIte]
          refine NextV_of (i + 1) [some 0] rfl (by simp (disch := (first | omega | (simp only [lnA, List.length_map, List.length_range, true_and, and_true]; (try omega); done) | fail)) only [go_sem, Int.reduceEq, Int.reduceToNat, Nat.reduceAdd, Nat.reduceMul, Nat.reduceEqDiff, ↓reduceIte, true_and, and_true, and_self, List.drop_zero, List.take_length, Nat.le_refl, V.lit.injEq, Value.int.injEq, Value.bool.injEq]; try (first | omega | (simp; done) | (simp; omega))) (by rw [hnx]; (simp (disch := (first | omega | (simp only [lnA, List.length_map, List.length_range, true_and, and_true]; (try omega); done) | fail)) only [go_sem, Int.reduceEq, Int.reduceToNat, Nat.reduceAdd, Nat.reduceMul, Nat.reduceEqDiff, ↓reduceIte, true_and, and_true, and_self, List.drop_zero, List.take_length, Nat.le_refl, V.lit.injEq, Value.int.injEq, Value.bool.injEq]; try (first | omega | (simp; done) | (simp; omega)))) (by omega) (by omega)
        · rw [decide_eq_false (fun hc => h57 hc.2)] at hnx
          have hd : decide (((D.getD i 0).toNat : Int) ≤ 57) = false := decide_eq_false (by omega)
          simp (maxSteps := 1000000) (disch := (first | omega | (simp only [lnA, List.length_map, List.length_range, true_and, and_true]; (try omega); done) | fail)) only [go_sem, hg, hd, Int.reduceEq, Int.reduceToNat, Nat.reduceAdd, Nat.reduceMul, Nat.reduceEqDiff, ↓reduceIte]
          refine NextV_of (i + 1) [some 0] rfl (by simp (disch := (first | omega | (simp only [lnA, List.length_map, List.length_range, true_and, and_true]; (try omega); done) | fail)) only [go_sem, Int.reduceEq, Int.reduceToNat, Nat.reduceAdd, Nat.reduceMul, Nat.reduceEqDiff, ↓reduceIte, true_and, and_true, and_self, List.drop_zero, List.take_length, Nat.le_refl, V.lit.injEq, Value.int.injEq, Value.bool.injEq]; try (first | omega | (simp; done) | (simp; omega))) (by rw [hnx]; (simp (disch := (first | omega | (simp only [lnA, List.length_map, List.length_range, true_and, and_true]; (try omega); done) | fail)) only [go_sem, Int.reduceEq, Int.reduceToNat, Nat.reduceAdd, Nat.reduceMul, Nat.reduceEqDiff, ↓reduceIte, true_and, and_true, and_self, List.drop_zero, List.take_length, Nat.le_refl, V.lit.injEq, Value.int.injEq, Value.bool.injEq]; try (first | omega | (simp; done) | (simp; omega)))) (by omega) (by omega)
      · rw [decide_eq_false (fun hc => h48 hc.1)] at hnx
        have hd : decide (48 ≤ ((D.getD i 0).toNat : Int)) = false := decide_eq_false (by omega)
        simp (maxSteps := 1000000) (disch := (first | omega | (simp only [lnA, List.length_map, List.length_range, true_and, and_true]; (try omega); done) | fail)) only [go_sem, hg, hd, Int.reduceEq, Int.reduceToNat, Nat.reduceAdd, Nat.reduceMul, Nat.reduceEqDiff, ↓reduceIte]
        refine NextV_of (i + 1) [some 0] rfl (by simp (disch := (first | omega | (simp only [lnA, List.length_map, List.length_range, true_and, and_true]; (try omega); done) | fail)) only [go_sem, Int.reduceEq, Int.reduceToNat, Nat.reduceAdd, Nat.reduceMul, Nat.reduceEqDiff, ↓reduceIte, true_and, and_true, and_self, List.drop_zero, List.take_length, Nat.le_refl, V.lit.injEq, Value.int.injEq, Value.bool.injEq]; try (first | omega | (simp; done) | (simp; omega))) (by rw [hnx]; (simp (disch := (first | omega | (simp only [lnA, List.length_map, List.length_range, true_and, and_true]; (try omega); done) | fail)) only [go_sem, Int.reduceEq, Int.reduceToNat, Nat.reduceAdd, Nat.reduceMul, Nat.reduceEqDiff, ↓reduceIte, true_and, and_true, and_self, List.drop_zero, List.take_length, Nat.le_refl, V.lit.injEq, Value.int.injEq, Value.bool.injEq]; try (first | omega | (simp; done) | (simp; omega)))) (by omega) (by omega)
    | false =>
      rw [hg, Bool.false_and] at hnx
      simp (maxSteps := 1000000) (disch := (first | omega | (simp only [lnA, List.length_map, List.length_range, true_and, and_true]; (try omega); done) | fail)) only [go_sem, hg, Int.reduceEq, Int.reduceToNat, Nat.reduceAdd, Nat.reduceMul, Nat.reduceEqDiff, ↓reduceIte]
      refine NextV_of (i + 1) [some 0] rfl (by simp (disch := (first | omega | (simp only [lnA, List.length_map, List.length_range, true_and, and_true]; (try omega); done) | fail)) only [go_sem, Int.reduceEq, Int.reduceToNat, Nat.reduceAdd, Nat.reduceMul, Nat.reduceEqDiff, ↓reduceIte, true_and, and_true, and_self, List.drop_zero, List.take_length, Nat.le_refl, V.lit.injEq, Value.int.injEq, Value.bool.injEq]; try (first | omega | (simp; done) | (simp; omega))) (by rw [hnx]; (simp (disch := (first | omega | (simp only [lnA, List.length_map, List.length_range, true_and, and_true]; (try omega); done) | fail)) only [go_sem, Int.reduceEq, Int.reduceToNat, Nat.reduceAdd, Nat.reduceMul, Nat.reduceEqDiff, ↓reduceIte, true_and, and_true, and_self, List.drop_zero, List.take_length, Nat.le_refl, V.lit.injEq, Value.int.injEq, Value.bool.injEq]; try (first | omega | (simp; done) | (simp; omega)))) (by omega) (by omega)
  · have et : D.take i = D := List.take_of_length_le (by omega)
    rw [et]
    cases hg : (b0 && D.all isD) with
    | true =>
      obtain ⟨rfl, q2⟩ := k1 (hok.2 hg)
      rw [q2] at t
      simp (maxSteps := 1000000) (disch := (first | omega | (simp only [lnA, List.length_map, List.length_range, true_and, and_true]; (try omega); done) | fail)) only [go_sem, hg, Int.reduceEq, Int.reduceToNat, Nat.reduceAdd, Nat.reduceMul, Nat.reduceEqDiff, ↓reduceIte]
      refine callV0 (t) rfl rfl ?_
      simp (maxSteps := 1000000) (disch := (first | omega | (simp only [lnA, List.length_map, List.length_range, true_and, and_true]; (try omega); done) | fail)) only [go_sem, eq_self, decide_true, Int.reduceEq, Int.reduceToNat, Nat.reduceAdd, Nat.reduceMul, Nat.reduceEqDiff, ↓reduceIte]
      exact endW [] hQ
    | false =>
      obtain ⟨rfl, rfl⟩ := k2 (fun hc => by rw [hok.1 hc] at hg; cases hg)
      rw [zS_0] at t
      simp (maxSteps := 1000000) (disch := (first | omega | (simp only [lnA, List.length_map, List.length_range, true_and, and_true]; (try omega); done) | fail)) only [go_sem, hg, Int.reduceEq, Int.reduceToNat, Nat.reduceAdd, Nat.reduceMul, Nat.reduceEqDiff, ↓reduceIte]
      refine callV0 (t) rfl rfl ?_
      simp (maxSteps := 1000000) (disch := (first | omega | (simp only [lnA, List.length_map, List.length_range, true_and, and_true]; (try omega); done) | fail)) only [go_sem, eq_self, decide_true, Int.reduceEq, Int.reduceToNat, Nat.reduceAdd, Nat.reduceMul, Nat.reduceEqDiff, ↓reduceIte]
      exact endW [] hQ
end Go.Proofs.YtfkpfhjfjnnbbaaDoor
