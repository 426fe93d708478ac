import Derived.Test.YteookgjmohokiaaGreatIq
import Derived.Test.YteookgjmohokiaaGreatHg
namespace Go.Proofs.YteookgjmohokiaaGreat
open Go.Eng Go.Vx
set_option linter.unusedSimpArgs false
set_option linter.unusedVariables false
set_option maxRecDepth 100000
theorem bytes_nat {B : List Int} (h : IsB B) : ∃ l : List Nat, nl l = B ∧ ∀ x ∈ l, x < 256 := by
  refine ⟨B.map Int.toNat, ?_, fun x hx => ?_⟩
  · unfold nl
    rw [List.map_map]
    conv => rhs; rw [← List.map_id B]
    refine List.map_congr_left fun x hx => ?_
    exact Int.toNat_of_nonneg (h x hx).1
  · obtain ⟨y, hy, rfl⟩ := List.mem_map.1 hx
    have := h y hy
    omega
theorem pln_ans {cs : List V} {v : Value} (h : pln.plnL cs = true) : pln (.tup [.agg cs, .lit v]) = true := by
  show (pln.plnL cs && (true && true)) = true
  rw [h]; rfl
theorem pln_arg {cs : List V} (h : pln.plnL cs = true) : pln.plnL [.agg cs] = true := by
  show (pln.plnL cs && true) = true
  rw [h]; rfl
def wantW (b : Bool) (l : List Nat) : List Nat := if b then sealN (l.take 5000) else l.take 5000
theorem wireAny_nl {l : List Nat} {s : Bool} (hl : ∀ x ∈ l, x < 256) (hm : l.length ≤ 9223372036854775807) : Fn1 Tryz.prog 4 [.row 1 ((nl l).map (ie .u8)), .lit (.bool s)] [] (.lit (.bool true)) [] := by
  have aw := awake25_fn
  have hl5 : ∀ x ∈ l.take 5000, x < 256 := fun x hx => hl x (List.mem_of_mem_take hx)
  have hlen : (l.take 5000).length ≤ 5000 := by rw [List.length_take]; omega
  have hnl := nl_len l
  have hn5 := nl_len (l.take 5000)
  have htk : 5000 < l.length → (nl l).take 5000 = nl (l.take 5000) := fun _ => by simp [nl, List.map_take]
  have hns : ¬ 5000 < l.length → nl l = nl (l.take 5000) := fun h => by rw [List.take_of_length_le (by omega)]
  have sl := refSeal_fn (l := l.take 5000) hl5 (by omega)
  have hW : (∀ x ∈ wantW s l, x < 256) ∧ (wantW s l).length ≤ 5004 := by
    unfold wantW
    cases s with
    | true => exact ⟨sealN_lt hl5, by rw [if_pos rfl, sealN_len]; omega⟩
    | false => exact ⟨hl5, by rw [if_neg (by decide)]; omega⟩
  have any := anyW hW.1 (by omega)
  have hwl := nl_len (wantW s l)
  have sm := refSame_fn (A := nl (wantW s l)) (B := nl (wantW s l)) (by omega) (by omega)
  rw [decide_eq_true rfl] at sm
  have hs : s = true → nl (sealN (l.take 5000)) = nl (wantW s l) := fun h => by rw [h]; rfl
  have hs2 : s = false → nl (l.take 5000) = nl (wantW s l) := fun h => by rw [h]; rfl
  have hw5 : s = false → (wantW s l).length ≤ 5000 := fun h => by rw [h]; exact hlen
  unfold refW okW at any
  have h5 := hW.2
  clear hW hl hl5
  generalize nl (wantW s l) = W at *
  generalize (wantW s l).length = wl at *
  generalize hq : l.take 5000 = l5 at *
  have mk : ∀ (N : List Int), N = nl l → Fn1 Tryz.prog 4 [.row 1 (N.map (ie .u8)), .lit (.bool s)] [] (.lit (.bool true)) [] := by
    intro N hN
    rw [← hN] at hnl htk hns
    clear hN hq
    refine fn1N_of pl4 (by kernel_rfl) Tryz.call4 Tryz.func4 rfl (by kernel_rfl) rfl [.tmp 4] (by kernel_rfl) fun Q hQ => ?_
    refine runW ?_
    refine callV0 (aw) rfl rfl ?_
    by_cases h1 : 5000 < l.length
    · have htk := htk h1
      cases s with
      | true =>
        have hs := hs rfl
        rw [hs] at sl
        simp (maxSteps := 1000000) (disch := (first | omega | (simp only [lnA, List.length_map, List.length_range, true_and, and_true]; (try omega); done) | fail)) only [go_sem, htk, Int.reduceEq, Int.reduceToNat, Nat.reduceAdd, Nat.reduceMul, Nat.reduceEqDiff, ↓reduceIte]
        refine callV0 (sl) rfl rfl ?_
        refine runW ?_
        rcases any with any | ⟨hle, c0, c1, c2, c3, c4, c5, c6, c7, c8, c9, c10, hp, dc, ck, en⟩
        · refine callV0 (any) rfl rfl ?_
          refine runW ?_
          exact endW [] hQ
        · refine callV0 (dc) rfl (pln_ans hp) ?_
          refine runW ?_
          refine callV0 (en) (pln_arg hp) rfl ?_
          refine runW ?_
          refine callV0 (ck) (pln_arg hp) rfl ?_
          refine runW ?_
          refine callV0 (sm) rfl rfl ?_
          refine runW ?_
          exact endW [] hQ
      | false =>
        have hs2 := hs2 rfl
        rw [hs2] at htk
        simp (maxSteps := 1000000) (disch := (first | omega | (simp only [lnA, List.length_map, List.length_range, true_and, and_true]; (try omega); done) | fail)) only [go_sem, htk, Int.reduceEq, Int.reduceToNat, Nat.reduceAdd, Nat.reduceMul, Nat.reduceEqDiff, ↓reduceIte]
        rcases any with any | ⟨hle, c0, c1, c2, c3, c4, c5, c6, c7, c8, c9, c10, hp, dc, ck, en⟩
        · refine callV0 (any) rfl rfl ?_
          refine runW ?_
          exact endW [] hQ
        · refine callV0 (dc) rfl (pln_ans hp) ?_
          refine runW ?_
          refine callV0 (en) (pln_arg hp) rfl ?_
          refine runW ?_
          refine callV0 (ck) (pln_arg hp) rfl ?_
          refine runW ?_
          refine callV0 (sm) rfl rfl ?_
          refine runW ?_
          exact endW [] hQ
    · have hns := hns h1
      cases s with
      | true =>
        have hs := hs rfl
        rw [hs] at sl
        rw [hns]
        refine runW ?_
        refine callV0 (sl) rfl rfl ?_
        refine runW ?_
        rcases any with any | ⟨hle, c0, c1, c2, c3, c4, c5, c6, c7, c8, c9, c10, hp, dc, ck, en⟩
        · refine callV0 (any) rfl rfl ?_
          refine runW ?_
          exact endW [] hQ
        · refine callV0 (dc) rfl (pln_ans hp) ?_
          refine runW ?_
          refine callV0 (en) (pln_arg hp) rfl ?_
          refine runW ?_
          refine callV0 (ck) (pln_arg hp) rfl ?_
          refine runW ?_
          refine callV0 (sm) rfl rfl ?_
          refine runW ?_
          exact endW [] hQ
      | false =>
        have hs2 := hs2 rfl
        have hw5 := hw5 rfl
        rw [hs2] at hns
        rw [hns]
        refine runW ?_
        rcases any with any | ⟨hle, c0, c1, c2, c3, c4, c5, c6, c7, c8, c9, c10, hp, dc, ck, en⟩
        · refine callV0 (any) rfl rfl ?_
          refine runW ?_
          exact endW [] hQ
        · refine callV0 (dc) rfl (pln_ans hp) ?_
          refine runW ?_
          refine callV0 (en) (pln_arg hp) rfl ?_
          refine runW ?_
          refine callV0 (ck) (pln_arg hp) rfl ?_
          refine runW ?_
          refine callV0 (sm) rfl rfl ?_
          refine runW ?_
          exact endW [] hQ
  exact mk _ rfl
theorem wireAny_fn {B : List Int} {s : Bool} (hB : B.length ≤ 9223372036854775807) (hI : IsB B) : Fn1 Tryz.prog 4 [.row 1 (B.map (ie .u8)), .lit (.bool s)] [] (.lit (.bool true)) [] := by
  obtain ⟨l, rfl, hl⟩ := bytes_nat hI
  exact wireAny_nl hl (by rw [nl_len] at hB; exact hB)
end Go.Proofs.YteookgjmohokiaaGreat
