import Derived.Test.YtfkpfhjfjnnbbaaDoorYw
import Derived.Test.YtfkpfhjfjnnbbaaDoorYl
/-! NatTexts. -/
namespace Go.Proofs.YtfkpfhjfjnnbbaaDoor
open Go.Eng Go.Vx
set_option linter.unusedSimpArgs false
set_option linter.unusedVariables false
set_option maxRecDepth 100000
theorem dig_byte {d : Nat} (h : d < 10) : (UInt8.ofNat (48 + d)).toNat = 48 + d := by
  rw [UInt8.toNat_ofNat']
  exact Nat.mod_eq_of_lt (by omega)
theorem dig_isD {d : Nat} (h : d < 10) : isD (UInt8.ofNat (48 + d)) = true := by
  unfold isD
  rw [dig_byte h]
  exact decide_eq_true ⟨by omega, by omega⟩
theorem valD_dec : ∀ k u, valD (decB (decL k u)) = u % 10 ^ k
  | 0, u => by simp [decL, decB, valD, Nat.mod_one]
  | k + 1, u => by
    have hd : u % 10 < 10 := Nat.mod_lt _ (by decide)
    show valD (decB (decL k (u / 10) ++ [u % 10])) = _
    rw [decB_app]
    show valD (decB (decL k (u / 10)) ++ [UInt8.ofNat (48 + u % 10)]) = _
    rw [valD_snoc, valD_dec k, dig_byte hd, Nat.pow_succ, Nat.mul_comm (10 ^ k) 10, Nat.mod_mul]
    omega
theorem valD_decS (n : Nat) : valD (decS n) = n := by
  unfold decS
  rw [valD_dec, Nat.mod_eq_of_lt (nd10_lt n)]
theorem decB_all {l : List Nat} (h : ∀ d ∈ l, d < 10) : (decB l).all isD = true := by
  refine List.all_eq_true.2 fun b hb => ?_
  unfold decB at hb
  obtain ⟨d, hd, rfl⟩ := List.mem_map.1 hb
  exact dig_isD (h d hd)
theorem decS_ok (n : Nat) : okT (decS n) := by
  refine ⟨fun e => ?_, fun ⟨h1, h2⟩ => ?_, decB_all (decL_lt _ _)⟩
  · have h1 := decS_len n
    rw [e] at h1
    have h2 := nd10_pos n
    simp at h1
    omega
  · rw [decS_len] at h1
    obtain ⟨k, hk⟩ : ∃ k, nd10 n = k + 1 := ⟨nd10 n - 1, by omega⟩
    have hle : 10 ^ k ≤ n := by
      refine Classical.byContradiction fun hc => ?_
      have := (nd10_le (n := n) (k := k) (by omega)).2 (by omega)
      omega
    have hlt := nd10_lt n
    rw [hk, Nat.pow_succ] at hlt
    have hp : 0 < 10 ^ k := Nat.pow_pos (by decide)
    have hq1 : 1 ≤ n / 10 ^ k := (Nat.one_le_div_iff hp).2 hle
    have hq2 : n / 10 ^ k < 10 := (Nat.div_lt_iff_lt_mul hp).2 (by rw [Nat.mul_comm]; exact hlt)
    have e : decS n = UInt8.ofNat (48 + n / 10 ^ k % 10) :: decB (decL k n) := by
      unfold decS
      rw [hk, Nat.add_comm, decL_add k 1]
      rfl
    rw [e] at h2
    have h3 := congrArg UInt8.toNat h2
    rw [show (UInt8.ofNat (48 + n / 10 ^ k % 10) :: decB (decL k n)).getD 0 0 = UInt8.ofNat (48 + n / 10 ^ k % 10) from rfl, dig_byte (Nat.mod_lt _ (by decide)), Nat.mod_eq_of_lt hq2] at h3
    have h4 : (48 : UInt8).toNat = 48 := rfl
    omega
theorem dec_valD : ∀ (k : Nat) (s : List UInt8), s.length = k → s.all isD = true → decB (decL k (valD s)) = s := by
  intro k
  induction k with
  | zero => intro s hs _; rw [List.length_eq_zero_iff.1 hs]; rfl
  | succ k ih =>
    intro s hs ha
    have hne : s ≠ [] := fun e => by rw [e] at hs; simp at hs
    have e := List.dropLast_concat_getLast hne
    have hal := List.all_eq_true.1 ha
    have h1 := ih s.dropLast (by simp [hs]) (List.all_eq_true.2 fun b hb => hal b (List.dropLast_subset s hb))
    have h2 := of_decide_eq_true (hal (s.getLast hne) (List.getLast_mem hne))
    generalize s.getLast hne = b at *
    generalize s.dropLast = t at *
    subst e
    rw [valD_snoc]
    show decB (decL k ((valD t * 10 + (b.toNat - 48)) / 10) ++ [(valD t * 10 + (b.toNat - 48)) % 10]) = _
    rw [show (valD t * 10 + (b.toNat - 48)) / 10 = valD t by omega, show (valD t * 10 + (b.toNat - 48)) % 10 = b.toNat - 48 by omega, decB_app, h1]
    congr 1
    show [UInt8.ofNat (48 + (b.toNat - 48))] = [b]
    rw [show 48 + (b.toNat - 48) = b.toNat by omega, UInt8.ofNat_toNat]
theorem decS_valD {s : List UInt8} (h : okT s) : decS (valD s) = s := by
  obtain ⟨h0, h1, ha⟩ := h
  have hal := List.all_eq_true.1 ha
  have hlt := valD_lt (s := s) hal
  have hl0 : s.length ≠ 0 := fun e => h0 (List.length_eq_zero_iff.1 e)
  have hk : nd10 (valD s) = s.length := by
    refine nd10_eq (by omega) hlt ?_
    by_cases h : s.length = 1
    · exact .inr h
    · left
      match s, h0, h1, hal, h with
      | b :: t, _, h1, hal, h =>
        have hb := of_decide_eq_true (hal b (by simp))
        have hb2 : b.toNat ≠ 48 := fun e => h1 ⟨Nat.lt_of_le_of_ne (Nat.succ_le_of_lt (by simp)) (fun hh => h hh.symm), UInt8.toNat_inj.1 e⟩
        have e : valD (b :: t) = valD [b] * 10 ^ t.length + valD t := valD_app [b] t.length t rfl
        have e1 : valD [b] = b.toNat - 48 := by simp [valD]
        have e2 : (b :: t).length - 1 = t.length := by simp
        rw [e, e1, e2]
        have := Nat.mul_le_mul_right (10 ^ t.length) (show 1 ≤ b.toNat - 48 by omega)
        omega
  unfold decS
  rw [hk]
  exact dec_valD s.length s rfl ha
/-- The text's head is a number's. -/
def okH (s : List UInt8) : Bool := decide (s ≠ [] ∧ ¬ (1 < s.length ∧ s.getD 0 0 = 48))
theorem okT_iff {s : List UInt8} : okT s ↔ (okH s && s.all isD) = true := by
  unfold okT okH
  rw [Bool.and_eq_true, decide_eq_true_iff]
  exact ⟨fun h => ⟨⟨h.1, h.2.1⟩, h.2.2⟩, fun h => ⟨h.1.1, h.1.2, h.2⟩⟩
set_option maxHeartbeats 4000000 in
theorem natTexts_fn {P0 : List Nat} {s : List UInt8} (hP0 : ∀ d ∈ P0, d < 18446744073709551616) (lP : P0.length ≤ 9223372036854775807) (hs : s.length ≤ 9223372036854775807) :
    Fn1 Tryd.prog 8 [.row 1 ((nl P0).map (ie .u64)), .lit (.string (bs s))] [] (.lit (.bool true)) [] := by
  obtain ⟨fp, hP, hPl⟩ := few_of (k := 9) hP0 lP (by decide)
  generalize P0.take 9 = W1 at *
  obtain ⟨a, oa, va, la, da, -⟩ := both_of hP hPl (by decide)
  have t1 := ntext_fn (n := a) (by omega)
  have t2 := rtext_fn (n := a) (by omega)
  have hdl : (decS a).length ≤ 200 := by
    rw [decS_len]
    by_cases h0 : a = 0
    · subst h0; have : nd10 0 ≤ 1 := (nd10_le (by decide)).2 (by decide)
      omega
    · have := nd10_wg h0
      omega
  have p1 := nparse_fn (s := decS a) (by omega) (decS_ok a)
  rw [valD_decS] at p1
  have c1 := ncmp_fn (a := a) (b := a) (by omega) (by omega)
  rw [cmpI_eq] at c1
  by_cases hlong : 2000 < s.length
  · have p2 := nparseL_fn hs hlong
    refine fn1N_of pl8 (by kernel_rfl) Tryd.call8 Tryd.func8 rfl (by kernel_rfl) rfl [.tmp 4] (by kernel_rfl) fun Q hQ => ?_
    repeat (first | (refine callV0 (awake5_fn) rfl rfl ?_) | (refine callV0 (fp) rfl rfl ?_) | (refine callV0 (oa) rfl rfl ?_) | (refine callV0 (va) rfl rfl ?_) | (refine callV0 (t1) rfl rfl ?_) | (refine callV0 (t2) rfl rfl ?_) | (refine callV0 (p1) rfl rfl ?_) | (refine callV0 (c1) rfl rfl ?_) | (refine callV0 (p2) rfl rfl ?_) | (simp (maxSteps := 1000000) (disch := (first | omega | (simp only [lnA, List.length_map, List.length_range, true_and, and_true]; (try omega); done) | fail)) only [go_sem, eq_self, decide_true, decide_false, List.append_eq, List.cons_append, List.nil_append, Int.reduceEq, Int.reduceToNat, Nat.reduceAdd, Nat.reduceMul, Nat.reduceEqDiff, ↓reduceIte]))
    exact endW [] hQ
  have hp2 : ∃ (v : Nat) (e : Int), Fn1 Tryd.prog 38 [.lit (.string (bs s))] [] (.tup [NV v, .lit (.int .i64 e)]) [] ∧ (okT s → e = 0 ∧ decS v = s) ∧ (¬ okT s → e = 4 ∧ v = 0) ∧ (wg v).length ≤ 2000 := by
    by_cases hok : okT s
    · refine ⟨valD s, 0, nparse_fn (by omega) hok, fun _ => ⟨rfl, decS_valD hok⟩, fun h => absurd hok h, ?_⟩
      exact Nat.le_trans (wg_len (Nat.lt_of_lt_of_le (valD_lt (List.all_eq_true.1 hok.2.2)) (Nat.pow_le_pow_left (by decide) s.length))) (by omega)
    · exact ⟨0, 4, nparseB_fn (by omega) hok, fun h => absurd h hok, fun _ => ⟨rfl, rfl⟩, by rw [wg_zero]; decide⟩
  obtain ⟨v, e, p2, k1, k2, lv⟩ := hp2
  have zz := zero_fn (n := v) (by omega)
  have t3 := ntext_fn (n := v) (by omega)
  have hH : ∃ b0 : Bool, okH s = b0 ∧ (b0 = true ↔ (s ≠ [] ∧ ¬ (1 < s.length ∧ s.getD 0 0 = 48))) := ⟨_, rfl, decide_eq_true_iff⟩
  obtain ⟨b0, hb0, hbi⟩ := hH
  have hi : ∀ b : Bool, (b && (s.take 0).all isD) = b := fun b => by simp
  have hnx : ∀ i, i < s.length → (b0 && (s.take (i + 1)).all isD) = ((b0 && (s.take i).all isD) && isD (s.getD i 0)) := fun i h => by
    rw [List.take_succ_eq_append_getElem h, List.all_append, ← Bool.and_assoc]
    simp [List.getD_eq_getElem?_getD, h]
  have hiff := okT_iff (s := s)
  rw [hb0] at hiff
  refine fn1N_of pl8 (by kernel_rfl) Tryd.call8 Tryd.func8 rfl (by kernel_rfl) rfl [.tmp 4] (by kernel_rfl) fun Q hQ => ?_
  repeat (first | (refine callV0 (awake5_fn) rfl rfl ?_) | (refine callV0 (fp) rfl rfl ?_) | (refine callV0 (oa) rfl rfl ?_) | (refine callV0 (va) rfl rfl ?_) | (refine callV0 (t1) rfl rfl ?_) | (refine callV0 (t2) rfl rfl ?_) | (refine callV0 (p1) rfl rfl ?_) | (refine callV0 (c1) rfl rfl ?_) | (refine callV0 (p2) rfl rfl ?_) | (simp (maxSteps := 1000000) (disch := (first | omega | (simp only [lnA, List.length_map, List.length_range, true_and, and_true]; (try omega); done) | fail)) only [go_sem, eq_self, decide_true, decide_false, List.append_eq, List.cons_append, List.nil_append, Int.reduceEq, Int.reduceToNat, Nat.reduceAdd, Nat.reduceMul, Nat.reduceEqDiff, ↓reduceIte]))
  by_cases e0 : s = []
  case' pos =>
    have hb : b0 = false := Bool.eq_false_iff.2 fun h => (hbi.1 h).1 e0
    simp (maxSteps := 1000000) (disch := (first | omega | (simp only [lnA, List.length_map, List.length_range, true_and, and_true]; (try omega); done) | fail)) only [go_sem, decide_eq_true e0, Int.reduceEq, Int.reduceToNat, Nat.reduceAdd, Nat.reduceMul, Nat.reduceEqDiff, ↓reduceIte]
  case' neg =>
    have hl0 : s.length ≠ 0 := fun e => e0 (List.length_eq_zero_iff.1 e)
    by_cases e1 : s.length = 1
    case' pos =>
      have hb : b0 = true := hbi.2 ⟨e0, fun h => by omega⟩
      simp (maxSteps := 1000000) (disch := (first | omega | (simp only [lnA, List.length_map, List.length_range, true_and, and_true]; (try omega); done) | fail)) only [go_sem, decide_eq_false e0, decide_eq_true (show (s.length : Int) = 1 by omega), Int.reduceEq, Int.reduceToNat, Nat.reduceAdd, Nat.reduceMul, Nat.reduceEqDiff, ↓reduceIte]
    case' neg =>
      by_cases e2 : s.getD 0 0 = 48
      case' pos =>
        have hb : b0 = false := Bool.eq_false_iff.2 fun h => (hbi.1 h).2 ⟨by omega, e2⟩
        have hg : ((s.getD 0 0).toNat : Int) = 48 := by rw [e2]; rfl
        simp (maxSteps := 1000000) (disch := (first | omega | (simp only [lnA, List.length_map, List.length_range, true_and, and_true]; (try omega); done) | fail)) only [go_sem, decide_eq_false e0, decide_eq_false (show ¬ (s.length : Int) = 1 by omega), hg, Int.reduceEq, Int.reduceToNat, Nat.reduceAdd, Nat.reduceMul, Nat.reduceEqDiff, ↓reduceIte]
      case' neg =>
        have hb : b0 = true := hbi.2 ⟨e0, fun h => e2 h.2⟩
        have hg : decide (((s.getD 0 0).toNat : Int) = 48) = false := decide_eq_false fun e => e2 (UInt8.toNat_inj.1 (by
          have : (s.getD 0 0).toNat = 48 := by omega
          rw [this]; rfl))
        simp (maxSteps := 1000000) (disch := (first | omega | (simp only [lnA, List.length_map, List.length_range, true_and, and_true]; (try omega); done) | fail)) only [go_sem, decide_eq_false e0, decide_eq_false (show ¬ (s.length : Int) = 1 by omega), hg, Int.reduceEq, Int.reduceToNat, Nat.reduceAdd, Nat.reduceMul, Nat.reduceEqDiff, ↓reduceIte]
  all_goals
    refine LoopV_of (X := Nat) (st := fun i => ([(1, .lit (.string (bs s))), (7, .lit (.int .i64 e)), (10, .ref 0 0 0 0), (11, .lit (.bool (b0 && (s.take i).all isD))), (69, .lit (.int .i64 (s.length : Int))), (70, .lit (.int .i64 (i : Int)))], [some (.cells [.row 1 ((nl (wg v)).map (ie .u64))])]))
      (inv := fun i => i ≤ s.length) (m := fun i => s.length - i) 0 [some 2] rfl (by simp (disch := (first | omega | (simp only [lnA, List.length_map, List.length_range, true_and, and_true]; (try omega); done) | fail)) only [go_sem, Int.reduceEq, Int.reduceToNat, Nat.reduceAdd, Nat.reduceMul, Nat.reduceEqDiff, ↓reduceIte, true_and, and_true, and_self, List.drop_zero, List.take_length, Nat.le_refl, V.lit.injEq, Value.int.injEq, Value.bool.injEq]; try (first | omega | (simp; done) | (simp; omega))) (by rw [hi, hb]; (simp (disch := (first | omega | (simp only [lnA, List.length_map, List.length_range, true_and, and_true]; (try omega); done) | fail)) only [go_sem, Int.reduceEq, Int.reduceToNat, Nat.reduceAdd, Nat.reduceMul, Nat.reduceEqDiff, ↓reduceIte, true_and, and_true, and_self, List.drop_zero, List.take_length, Nat.le_refl, V.lit.injEq, Value.int.injEq, Value.bool.injEq]; try (first | omega | (simp; done) | (simp; omega)))) (by omega) ?_
    intro i hil
    by_cases h : i < s.length
    · have hnx := hnx i h
      have hc8 := (s.getD i 0).toNat_lt
      have hDD : isD (s.getD i 0) = decide (48 ≤ (s.getD i 0).toNat ∧ (s.getD i 0).toNat ≤ 57) := rfl
      cases hg : (b0 && (s.take i).all isD) with
      | true =>
        rw [hg, Bool.true_and, hDD] at hnx
        by_cases h48 : 48 ≤ (s.getD i 0).toNat
        · by_cases h57 : (s.getD i 0).toNat ≤ 57
          · rw [decide_eq_true ⟨h48, h57⟩] at hnx
            have hd : decide (((s.getD i 0).toNat : Int) ≤ 57) = true := decide_eq_true (by omega)
            simp (maxSteps := 1000000) (disch := (first | omega | (simp only [lnA, List.length_map, List.length_range, true_and, and_true]; (try omega); done) | fail)) only [go_sem, hg, hd, Int.reduceEq, Int.reduceToNat, Nat.reduceAdd, Nat.reduceMul, Nat.reduceEqDiff, ↓reduceIte]
            refine NextV_of (i + 1) [some 0] rfl (by simp (disch := (first | omega | (simp only [lnA, List.length_map, List.length_range, true_and, and_true]; (try omega); done) | fail)) only [go_sem, Int.reduceEq, Int.reduceToNat, Nat.reduceAdd, Nat.reduceMul, Nat.reduceEqDiff, ↓reduceIte, true_and, and_true, and_self, List.drop_zero, List.take_length, Nat.le_refl, V.lit.injEq, Value.int.injEq, Value.bool.injEq]; try (first | omega | (simp; done) | (simp; omega))) (by rw [hnx]; (simp (disch := (first | omega | (simp only [lnA, List.length_map, List.length_range, true_and, and_true]; (try omega); done) | fail)) only [go_sem, Int.reduceEq, Int.reduceToNat, Nat.reduceAdd, Nat.reduceMul, Nat.reduceEqDiff, ↓reduceIte, true_and, and_true, and_self, List.drop_zero, List.take_length, Nat.le_refl, V.lit.injEq, Value.int.injEq, Value.bool.injEq]; try (first | omega | (simp; done) | (simp; omega)))) (by omega) (by omega)
          · rw [decide_eq_false (fun hc => h57 hc.2)] at hnx
            have hd : decide (((s.getD i 0).toNat : Int) ≤ 57) = false := decide_eq_false (by omega)
            simp (maxSteps := 1000000) (disch := (first | omega | (simp only [lnA, List.length_map, List.length_range, true_and, and_true]; (try omega); done) | fail)) only [go_sem, hg, hd, Int.reduceEq, Int.reduceToNat, Nat.reduceAdd, Nat.reduceMul, Nat.reduceEqDiff, ↓reduceIte]
            refine NextV_of (i + 1) [some 0] rfl (by simp (disch := (first | omega | (simp only [lnA, List.length_map, List.length_range, true_and, and_true]; (try omega); done) | fail)) only [go_sem, Int.reduceEq, Int.reduceToNat, Nat.reduceAdd, Nat.reduceMul, Nat.reduceEqDiff, ↓reduceIte, true_and, and_true, and_self, List.drop_zero, List.take_length, Nat.le_refl, V.lit.injEq, Value.int.injEq, Value.bool.injEq]; try (first | omega | (simp; done) | (simp; omega))) (by rw [hnx]; (simp (disch := (first | omega | (simp only [lnA, List.length_map, List.length_range, true_and, and_true]; (try omega); done) | fail)) only [go_sem, Int.reduceEq, Int.reduceToNat, Nat.reduceAdd, Nat.reduceMul, Nat.reduceEqDiff, ↓reduceIte, true_and, and_true, and_self, List.drop_zero, List.take_length, Nat.le_refl, V.lit.injEq, Value.int.injEq, Value.bool.injEq]; try (first | omega | (simp; done) | (simp; omega)))) (by omega) (by omega)
        · rw [decide_eq_false (fun hc => h48 hc.1)] at hnx
          have hd : decide (48 ≤ ((s.getD i 0).toNat : Int)) = false := decide_eq_false (by omega)
          simp (maxSteps := 1000000) (disch := (first | omega | (simp only [lnA, List.length_map, List.length_range, true_and, and_true]; (try omega); done) | fail)) only [go_sem, hg, hd, Int.reduceEq, Int.reduceToNat, Nat.reduceAdd, Nat.reduceMul, Nat.reduceEqDiff, ↓reduceIte]
          refine NextV_of (i + 1) [some 0] rfl (by simp (disch := (first | omega | (simp only [lnA, List.length_map, List.length_range, true_and, and_true]; (try omega); done) | fail)) only [go_sem, Int.reduceEq, Int.reduceToNat, Nat.reduceAdd, Nat.reduceMul, Nat.reduceEqDiff, ↓reduceIte, true_and, and_true, and_self, List.drop_zero, List.take_length, Nat.le_refl, V.lit.injEq, Value.int.injEq, Value.bool.injEq]; try (first | omega | (simp; done) | (simp; omega))) (by rw [hnx]; (simp (disch := (first | omega | (simp only [lnA, List.length_map, List.length_range, true_and, and_true]; (try omega); done) | fail)) only [go_sem, Int.reduceEq, Int.reduceToNat, Nat.reduceAdd, Nat.reduceMul, Nat.reduceEqDiff, ↓reduceIte, true_and, and_true, and_self, List.drop_zero, List.take_length, Nat.le_refl, V.lit.injEq, Value.int.injEq, Value.bool.injEq]; try (first | omega | (simp; done) | (simp; omega)))) (by omega) (by omega)
      | false =>
        rw [hg, Bool.false_and] at hnx
        simp (maxSteps := 1000000) (disch := (first | omega | (simp only [lnA, List.length_map, List.length_range, true_and, and_true]; (try omega); done) | fail)) only [go_sem, hg, Int.reduceEq, Int.reduceToNat, Nat.reduceAdd, Nat.reduceMul, Nat.reduceEqDiff, ↓reduceIte]
        refine NextV_of (i + 1) [some 0] rfl (by simp (disch := (first | omega | (simp only [lnA, List.length_map, List.length_range, true_and, and_true]; (try omega); done) | fail)) only [go_sem, Int.reduceEq, Int.reduceToNat, Nat.reduceAdd, Nat.reduceMul, Nat.reduceEqDiff, ↓reduceIte, true_and, and_true, and_self, List.drop_zero, List.take_length, Nat.le_refl, V.lit.injEq, Value.int.injEq, Value.bool.injEq]; try (first | omega | (simp; done) | (simp; omega))) (by rw [hnx]; (simp (disch := (first | omega | (simp only [lnA, List.length_map, List.length_range, true_and, and_true]; (try omega); done) | fail)) only [go_sem, Int.reduceEq, Int.reduceToNat, Nat.reduceAdd, Nat.reduceMul, Nat.reduceEqDiff, ↓reduceIte, true_and, and_true, and_self, List.drop_zero, List.take_length, Nat.le_refl, V.lit.injEq, Value.int.injEq, Value.bool.injEq]; try (first | omega | (simp; done) | (simp; omega)))) (by omega) (by omega)
    · have et : s.take i = s := List.take_of_length_le (by omega)
      rw [et]
      cases hg : (b0 && s.all isD) with
      | true =>
        obtain ⟨rfl, q2⟩ := k1 (hiff.2 hg)
        rw [q2] at t3
        simp (maxSteps := 1000000) (disch := (first | omega | (simp only [lnA, List.length_map, List.length_range, true_and, and_true]; (try omega); done) | fail)) only [go_sem, hg, Int.reduceEq, Int.reduceToNat, Nat.reduceAdd, Nat.reduceMul, Nat.reduceEqDiff, ↓reduceIte]
        refine callV0 (t3) rfl rfl ?_
        simp (maxSteps := 1000000) (disch := (first | omega | (simp only [lnA, List.length_map, List.length_range, true_and, and_true]; (try omega); done) | fail)) only [go_sem, eq_self, decide_true, Int.reduceEq, Int.reduceToNat, Nat.reduceAdd, Nat.reduceMul, Nat.reduceEqDiff, ↓reduceIte]
        exact endW [] hQ
      | false =>
        obtain ⟨rfl, rfl⟩ := k2 (fun hc => by rw [hiff.1 hc] at hg; cases hg)
        simp (maxSteps := 1000000) (disch := (first | omega | (simp only [lnA, List.length_map, List.length_range, true_and, and_true]; (try omega); done) | fail)) only [go_sem, hg, Int.reduceEq, Int.reduceToNat, Nat.reduceAdd, Nat.reduceMul, Nat.reduceEqDiff, ↓reduceIte]
        refine callV0 (zz) rfl rfl ?_
        simp (maxSteps := 1000000) (disch := (first | omega | (simp only [lnA, List.length_map, List.length_range, true_and, and_true]; (try omega); done) | fail)) only [go_sem, decide_true, Int.reduceEq, Int.reduceToNat, Nat.reduceAdd, Nat.reduceMul, Nat.reduceEqDiff, ↓reduceIte]
        exact endW [] hQ
end Go.Proofs.YtfkpfhjfjnnbbaaDoor
