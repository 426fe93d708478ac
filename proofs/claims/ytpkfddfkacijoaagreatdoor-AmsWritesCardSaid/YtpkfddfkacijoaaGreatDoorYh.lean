import Derived.Test.YtpkfddfkacijoaaGreatDoorYg
import Derived.Test.YtpkfddfkacijoaaGreatDoorD2
namespace Go.Proofs.YtpkfddfkacijoaaGreatDoor
open Go.Eng Go.Vx
set_option linter.unusedSimpArgs false
set_option linter.unusedVariables false
set_option maxRecDepth 100000
theorem nd10_wg {n : Nat} (h : n ≠ 0) : nd10 n ≤ 20 * (wg n).length := by
  have h1 : n < 18446744073709551616 ^ (wg n).length := dgB_lt_pow (B := 18446744073709551616) (by decide) n
  have h2 : 0 < (wg n).length := by
    rcases Nat.eq_zero_or_pos (wg n).length with e | e
    · exact absurd (wg_nil.1 (List.length_eq_zero_iff.1 e)) h
    · exact e
  refine (nd10_le (by omega)).2 (Nat.lt_of_lt_of_le h1 ?_)
  rw [Nat.pow_mul]
  exact Nat.pow_le_pow_left (by decide) _
theorem text_step {n m j : Nat} {out : List UInt8} (hm : m = n / 10 ^ (18 * j)) (h0 : m ≠ 0) (ho : out = decB (decL (18 * j) n)) :
    (m / 1000000000000000000 = 0 → decS (m % 1000000000000000000) ++ out = decS n) ∧
    (m / 1000000000000000000 ≠ 0 → (List.replicate (18 - nd10 (m % 1000000000000000000)) 48 ++ decS (m % 1000000000000000000)) ++ out = decB (decL (18 * (j + 1)) n) ∧ m / 1000000000000000000 = n / 10 ^ (18 * (j + 1))) ∧ nd10 (m % 1000000000000000000) ≤ 18 := by
  have e18 : (1000000000000000000 : Nat) = 10 ^ 18 := by decide
  have hle : nd10 (m % 1000000000000000000) ≤ 18 := (nd10_le (by decide)).2 (by rw [← e18]; exact Nat.mod_lt _ (by decide))
  refine ⟨fun h => ?_, fun h => ⟨?_, ?_⟩, hle⟩
  · have hlt : m < 1000000000000000000 := by omega
    rw [Nat.mod_eq_of_lt hlt, ho, hm, ← decS_split (by rw [← hm]; exact h0)]
  · rw [← decS_pad hle, e18, decL_mod, ho, ← decB_app, hm, ← decL_add, show 18 + 18 * j = 18 * (j + 1) by omega]
  · rw [hm, e18, Nat.div_div_eq_div_mul, ← Nat.pow_add, show 18 * j + 18 = 18 * (j + 1) by omega]
theorem ntext_fn {n : Nat} (hn : (wg n).length ≤ 100000) : Fn1 Tryz.prog 60 [NV n] [] (.lit (.string (bs (decS n)))) [] := by
  refine fn1N_of pl60 (by kernel_rfl) Tryz.call60 Tryz.func60 rfl (by kernel_rfl) rfl [.tmp 2] (by kernel_rfl) fun Q hQ => ?_
  by_cases h0 : n = 0
  · subst h0
    rw [decS_small (by decide)] at hQ
    refine runW ?_
    refine callV0 (zero_fn (n := 0) (by rw [wg_zero]; decide)) rfl rfl ?_
    rw [decide_eq_true rfl]
    refine runW ?_
    exact endW [] hQ
  · have hnd := nd10_wg h0
    refine runW ?_
    refine callV0 (zero_fn (n := n) (by omega)) rfl rfl ?_
    rw [decide_eq_false h0]
    refine runW ?_
    refine loopW (X := Nat × Nat × List UInt8) (st := fun z => ([(1, .ref 0 0 0 0), (3, .lit (.string (bs z.2.2))), (4, .row 1 ((nl (wg z.1)).map (ie .u64)))], [some (.cells [.row 1 ((nl (wg n)).map (ie .u64))])]))
      (inv := fun z => (wg z.1).length ≤ 100000 ∧ ((z.1 = n / 10 ^ (18 * z.2.1) ∧ z.1 ≠ 0 ∧ z.2.2 = decB (decL (18 * z.2.1) n)) ∨ (z.1 = 0 ∧ z.2.2 = decS n))) (m := fun z => z.1) (n, 0, []) [some 0] ⟨hn, .inl ⟨by simp, h0, rfl⟩⟩ ?_
    rintro ⟨m, j, out⟩ ⟨hl, hi⟩
    simp only at hl hi ⊢
    have hnl := nl_len (wg m)
    rcases hi with ⟨hm, hm0, ho⟩ | ⟨rfl, rfl⟩
    · obtain ⟨t1, t2, t3⟩ := text_step hm hm0 ho
      have hpos : 0 < (wg m).length := by
        rcases Nat.eq_zero_or_pos (wg m).length with e | e
        · exact absurd (wg_nil.1 (List.length_eq_zero_iff.1 e)) hm0
        · exact e
      have hjn : 18 * j < nd10 n := by
        have h1 := nd10_lt n
        refine (Nat.pow_lt_pow_iff_right (a := 10) (by decide)).1 (Nat.lt_of_le_of_lt ?_ h1)
        refine Classical.byContradiction fun hc => hm0 ?_
        rw [hm]; exact Nat.div_eq_of_lt (by omega)
      have hol : out.length = 18 * j := by rw [ho, decB_len, decL_len]
      have hsp := split_fn (W := wg m) (y := 1000000000000000000) (wg_lt m) (by omega) (by decide) (by decide)
      rw [wg_val] at hsp
      have hqv : valB 18446744073709551616 (fw 18446744073709551616 (wg m).length (m / 1000000000000000000)) = m / 1000000000000000000 := by
        have hlt : m < 18446744073709551616 ^ (wg m).length := dgB_lt_pow (B := 18446744073709551616) (by decide) m
        rw [fw_val (by decide), Nat.mod_eq_of_lt (Nat.lt_of_le_of_lt (Nat.div_le_self m _) hlt)]
      have hF := fw_len (B := 18446744073709551616) (wg m).length (m / 1000000000000000000)
      have hFl := fw_lt (B := 18446744073709551616) (by decide) (wg m).length (m / 1000000000000000000)
      have hml : (wg (m / 1000000000000000000)).length ≤ 100000 := Nat.le_trans (wg_mono (Nat.div_le_self _ _)) hl
      have hmd : m / 1000000000000000000 < m := Nat.div_lt_self (by omega) (by decide)
      have hnl2 := nl_len (wg (m / 1000000000000000000))
      have hfu := fuint_fn (u := m % 1000000000000000000) (Nat.lt_trans (Nat.mod_lt _ (by decide)) (by decide))
      have hrep := repeat0_fn (c := 18 - nd10 (m % 1000000000000000000)) (by omega)
      have hsl := decS_len (m % 1000000000000000000)
      have hi18 : (18 : Int) - (nd10 (m % 1000000000000000000) : Int) = ((18 - nd10 (m % 1000000000000000000) : Nat) : Int) := by omega
      generalize fw 18446744073709551616 (wg m).length (m / 1000000000000000000) = F at *
      generalize m / 1000000000000000000 = q at *
      generalize m % 1000000000000000000 = r at *
      rw [← hF] at hsp
      have hnF := nl_len F
      refine runW ?_
      refine callF (hsp) ?_
      refine runW ?_
      refine callW [] [1] (trimmed_fn (l := F) hFl (by omega)) ?_
      rw [hqv]
      refine runW ?_
      refine callV0 (hfu) rfl rfl ?_
      by_cases hq : q = 0
      · have hz : (wg q).length = 0 := by rw [hq, wg_zero]; rfl
        refine runW ?_
        refine nextW (q, j + 1, decS r ++ out) [some 0] ⟨hml, .inr ⟨hq, t1 hq⟩⟩ hmd
      · have hz : 0 < (wg q).length := by
          rcases Nat.eq_zero_or_pos (wg q).length with e | e
          · exact absurd (wg_nil.1 (List.length_eq_zero_iff.1 e)) hq
          · exact e
        obtain ⟨t3, t4⟩ := t2 hq
        simp (maxSteps := 1000000) (disch := (first | omega | (simp only [lnA, List.length_map, List.length_range, true_and, and_true]; (try omega); done) | fail)) only [go_sem, hsl, hi18, Int.reduceEq, Int.reduceToNat, Nat.reduceAdd, Nat.reduceMul, Nat.reduceEqDiff, ↓reduceIte]
        refine callV0 (hrep) rfl rfl ?_
        refine runW ?_
        refine nextW (q, j + 1, (List.replicate (18 - nd10 r) 48 ++ decS r) ++ out) [some 0] ⟨hml, .inl ⟨t4, hq, t3⟩⟩ hmd
    · rw [wg_zero] at hnl
      simp (maxSteps := 1000000) (disch := (first | omega | (simp only [lnA, List.length_map, List.length_range, true_and, and_true]; (try omega); done) | fail)) only [go_sem, wg_zero, Int.reduceEq, Int.reduceToNat, Nat.reduceAdd, Nat.reduceMul, Nat.reduceEqDiff, ↓reduceIte]
      exact endW [] hQ
end Go.Proofs.YtpkfddfkacijoaaGreatDoor
