import Derived.Test.YtfemchdaoihogaaTc
import Derived.Test.YtfemchdaoihogaaZ2
/-! The tree of draws, of a fraction (written by gentreeq.py). -/
namespace Go.Proofs.Ytfemchdaoihogaa
open Go.Eng Go.Vx
set_option linter.unusedSimpArgs false
set_option linter.unusedVariables false
set_option maxRecDepth 100000
/-- The store of the closure 'walk'. -/
def wkQ (g : Nat) (most : Int) (x : Rat) (s : List Int × Int) : St :=
  [some (.cells [.clo g [.ref 5 0 0 0]]), some (.cells [.lit (.int .i64 most)]), some (.cells [.clo 62 [.ref 0 0 0 0, .ref 1 0 0 0, .ref 2 0 0 0, .ref 3 0 0 0, .ref 4 0 0 0]]), some (.cells [.lit (.int .i64 s.2)]), some (.cells (ofV s.1)), some (.cells [.row 1 ((nl (wg x.num.natAbs)).map (ie .u64)), .lit (.bool (decide (x.num < 0))), .row 1 ((nl (wg (x.den - 1))).map (ie .u64))])]
attribute [go_sem] wkQ
def AskQ (g : Nat) (most : Nat) (x : Rat) (A : List Bool → Int × Int) : Prop := ∀ L : List Bool, L.length ≤ most → ∃ q d, Fn1 Try.prog g [.ref 0 0 0 0, .ref 1 0 0 0] [some (tpC L 0 false), some (.cells [.row 1 ((nl (wg x.num.natAbs)).map (ie .u64)), .lit (.bool (decide (x.num < 0))), .row 1 ((nl (wg (x.den - 1))).map (ie .u64))])]
  (.tup [.lit (.int .i64 (A L).1), .lit (.int .i64 (A L).2)]) [some (tpC L q d), some (.cells [.row 1 ((nl (wg x.num.natAbs)).map (ie .u64)), .lit (.bool (decide (x.num < 0))), .row 1 ((nl (wg (x.den - 1))).map (ie .u64))])]
theorem walkQ_fn {g most : Nat} {x : Rat} {A : List Bool → Int × Int} (hm : most ≤ 20) (hA : AskQ g most x A) : ∀ (f : Nat) (L : List Bool) (s : List Int × Int) (B : Int), L.length + f = most → TrOk B s → B + 2 ^ f ≤ 1099511627776 →
    Fn1 Try.prog 62 [.row 1 (L.map be), .ref 0 0 0 0, .ref 1 0 0 0, .ref 2 0 0 0, .ref 3 0 0 0, .ref 4 0 0 0] (wkQ g most x s) (.tup []) (wkQ g most x (tree A f L s)) := by
  intro f
  induction f with
  | zero =>
    intro L s B hf hs hB
    refine fn1_of pl62 (by kernel_rfl) Try.call62 Try.func62 rfl (by kernel_rfl) rfl [] (by kernel_rfl) fun Q hQ => ?_
    obtain ⟨q, d, hask⟩ := hA L (by omega)
    have hml : (most : Int) - (L.length : Int) = ((0 : Nat) : Int) := by omega
    have hlm : decide ((L.length : Int) < (most : Int)) = false := decide_eq_false (by omega)
    have hsh : IntKind.i64.wrap (1 * 2 ^ 0) = 1 := sh1_n (k := 0) (by omega)
    rw [Int.pow_zero] at hB
    by_cases he : (A L).2 = 8
    · have htr : tree A 0 L s = (s.1, s.2 + 1) := by
        unfold tree
        rw [if_pos he]
      rw [htr] at hQ
      rw [he] at hask
      have ho1 := hs.2.2.1
      have ho2 := hs.2.2.2
      simp (maxSteps := 1000000) (disch := (first | omega | (simp only [lnA, List.length_map, List.length_range, true_and, and_true]; (try omega); done) | fail)) only [go_sem, Int.reduceEq, Int.reduceToNat, Nat.reduceAdd, Nat.reduceMul, Nat.reduceEqDiff, ↓reduceIte]
      refine callW [] [] (newT_fn (L := L) (by omega)) ?_
      simp (maxSteps := 1000000) (disch := (first | omega | (simp only [lnA, List.length_map, List.length_range, true_and, and_true]; (try omega); done) | fail)) only [go_sem, Int.reduceEq, Int.reduceToNat, Nat.reduceAdd, Nat.reduceMul, Nat.reduceEqDiff, ↓reduceIte]
      refine callW [some 6, some 5] [] (hask) ?_
      simp (maxSteps := 1000000) (disch := (first | omega | (simp only [lnA, List.length_map, List.length_range, true_and, and_true]; (try omega); done) | fail)) only [go_sem, hml, Int.toNat_natCast, hsh, hlm, Int.reduceEq, Int.reduceToNat, Nat.reduceAdd, Nat.reduceMul, Nat.reduceEqDiff, ↓reduceIte]
      exact endW [some 0, some 1, some 2, some 3, some 4, some 5] hQ
    · have htr : tree A 0 L s = if (A L).2 = 0 ∧ 0 ≤ (A L).1 ∧ (A L).1 < 64 then (s.1.set (A L).1.toNat (s.1.getD (A L).1.toNat 0 + 1), s.2) else s := by
        unfold tree
        rw [if_neg he]
      rw [htr] at hQ
      have he8 : decide ((A L).2 = 8) = false := decide_eq_false he
      simp (maxSteps := 1000000) (disch := (first | omega | (simp only [lnA, List.length_map, List.length_range, true_and, and_true]; (try omega); done) | fail)) only [go_sem, Int.reduceEq, Int.reduceToNat, Nat.reduceAdd, Nat.reduceMul, Nat.reduceEqDiff, ↓reduceIte]
      refine callW [] [] (newT_fn (L := L) (by omega)) ?_
      simp (maxSteps := 1000000) (disch := (first | omega | (simp only [lnA, List.length_map, List.length_range, true_and, and_true]; (try omega); done) | fail)) only [go_sem, Int.reduceEq, Int.reduceToNat, Nat.reduceAdd, Nat.reduceMul, Nat.reduceEqDiff, ↓reduceIte]
      refine callW [some 6, some 5] [] (hask) ?_
      by_cases h0 : (A L).2 = 0
      · have h0d : decide ((A L).2 = 0) = true := decide_eq_true h0
        by_cases h1 : 0 ≤ (A L).1
        · have h1d : decide (0 ≤ (A L).1) = true := decide_eq_true h1
          by_cases h2 : (A L).1 < 64
          · have h2d : decide ((A L).1 < 64) = true := decide_eq_true h2
            rw [if_pos ⟨h0, h1, h2⟩] at hQ
            obtain ⟨m, hm⟩ : ∃ m : Nat, (A L).1 = (m : Int) := ⟨(A L).1.toNat, by omega⟩
            have hB2 := (hs.2.1 m).2
            have hB3 := (hs.2.1 m).1
            have hm64 : m < s.1.length := by rw [hs.1]; omega
            rw [hm, Int.toNat_natCast] at hQ
            rw [hm] at h1d h2d hask
            simp (maxSteps := 1000000) (disch := (first | omega | (simp only [lnA, List.length_map, List.length_range, true_and, and_true]; (try omega); done) | fail)) only [go_sem, hml, Int.toNat_natCast, hsh, hlm, he8, h0d, h1d, h2d, hm, ofV_at, ofV_wr, Int.reduceEq, Int.reduceToNat, Nat.reduceAdd, Nat.reduceMul, Nat.reduceEqDiff, ↓reduceIte]
            exact endW [some 0, some 1, some 2, some 3, some 4, some 5] hQ
          · have h2d : decide ((A L).1 < 64) = false := decide_eq_false h2
            rw [if_neg (fun h => h2 h.2.2)] at hQ
            simp (maxSteps := 1000000) (disch := (first | omega | (simp only [lnA, List.length_map, List.length_range, true_and, and_true]; (try omega); done) | fail)) only [go_sem, hml, Int.toNat_natCast, hsh, hlm, he8, h0d, h1d, h2d, Int.reduceEq, Int.reduceToNat, Nat.reduceAdd, Nat.reduceMul, Nat.reduceEqDiff, ↓reduceIte]
            exact endW [some 0, some 1, some 2, some 3, some 4, some 5] hQ
        · have h1d : decide (0 ≤ (A L).1) = false := decide_eq_false h1
          rw [if_neg (fun h => h1 h.2.1)] at hQ
          simp (maxSteps := 1000000) (disch := (first | omega | (simp only [lnA, List.length_map, List.length_range, true_and, and_true]; (try omega); done) | fail)) only [go_sem, hml, Int.toNat_natCast, hsh, hlm, he8, h0d, h1d, Int.reduceEq, Int.reduceToNat, Nat.reduceAdd, Nat.reduceMul, Nat.reduceEqDiff, ↓reduceIte]
          exact endW [some 0, some 1, some 2, some 3, some 4, some 5] hQ
      · have h0d : decide ((A L).2 = 0) = false := decide_eq_false h0
        rw [if_neg (fun h => h0 h.1)] at hQ
        simp (maxSteps := 1000000) (disch := (first | omega | (simp only [lnA, List.length_map, List.length_range, true_and, and_true]; (try omega); done) | fail)) only [go_sem, hml, Int.toNat_natCast, hsh, hlm, he8, h0d, Int.reduceEq, Int.reduceToNat, Nat.reduceAdd, Nat.reduceMul, Nat.reduceEqDiff, ↓reduceIte]
        exact endW [some 0, some 1, some 2, some 3, some 4, some 5] hQ
  | succ f ih =>
    intro L s B hf hs hB
    refine fn1_of pl62 (by kernel_rfl) Try.call62 Try.func62 rfl (by kernel_rfl) rfl [] (by kernel_rfl) fun Q hQ => ?_
    obtain ⟨q, d, hask⟩ := hA L (by omega)
    obtain ⟨k, hk⟩ : ∃ k, k = f + 1 := ⟨_, rfl⟩
    have hml : (most : Int) - (L.length : Int) = (k : Int) := by omega
    have hlm : (L.length : Int) < (most : Int) := by omega
    have hsh := sh1_n (k := k) (by omega)
    have hp2 : (0 : Int) ≤ 2 ^ f := Int.pow_nonneg (by decide)
    have he2 : (2 : Int) ^ (f + 1) = 2 ^ f + 2 ^ f := by rw [Int.pow_succ]; omega
    by_cases he : (A L).2 = 8
    · have htr : tree A (f + 1) L s = tree A f (L ++ [true]) (tree A f (L ++ [false]) s) := by
        conv => lhs; unfold tree
        rw [if_pos he]
      rw [htr] at hQ
      rw [he] at hask
      simp (maxSteps := 1000000) (disch := (first | omega | (simp only [lnA, List.length_map, List.length_range, true_and, and_true]; (try omega); done) | fail)) only [go_sem, Int.reduceEq, Int.reduceToNat, Nat.reduceAdd, Nat.reduceMul, Nat.reduceEqDiff, ↓reduceIte]
      refine callW [] [] (newT_fn (L := L) (by omega)) ?_
      simp (maxSteps := 1000000) (disch := (first | omega | (simp only [lnA, List.length_map, List.length_range, true_and, and_true]; (try omega); done) | fail)) only [go_sem, Int.reduceEq, Int.reduceToNat, Nat.reduceAdd, Nat.reduceMul, Nat.reduceEqDiff, ↓reduceIte]
      refine callW [some 6, some 5] [] (hask) ?_
      simp (maxSteps := 1000000) (disch := (first | omega | (simp only [lnA, List.length_map, List.length_range, true_and, and_true]; (try omega); done) | fail)) only [go_sem, hml, Int.toNat_natCast, hsh, hlm, List.take_length, Int.reduceEq, Int.reduceToNat, Nat.reduceAdd, Nat.reduceMul, Nat.reduceEqDiff, ↓reduceIte]
      refine callW [some 0, some 1, some 2, some 3, some 4, some 5] [8] (ih (L ++ [false]) s B (by simp; omega) hs (by omega)) ?_
      simp (maxSteps := 1000000) (disch := (first | omega | (simp only [lnA, List.length_map, List.length_range, true_and, and_true]; (try omega); done) | fail)) only [go_sem, hml, Int.toNat_natCast, hsh, hlm, List.take_length, Int.reduceEq, Int.reduceToNat, Nat.reduceAdd, Nat.reduceMul, Nat.reduceEqDiff, ↓reduceIte]
      refine callW [some 0, some 1, some 2, some 3, some 4, some 5] [10] (ih (L ++ [true]) (tree A f (L ++ [false]) s) (B + 2 ^ f) (by simp; omega) (tree_ok A f _ s B hs) (by omega)) ?_
      simp (maxSteps := 1000000) (disch := (first | omega | (simp only [lnA, List.length_map, List.length_range, true_and, and_true]; (try omega); done) | fail)) only [go_sem, Int.reduceEq, Int.reduceToNat, Nat.reduceAdd, Nat.reduceMul, Nat.reduceEqDiff, ↓reduceIte]
      exact endW [some 0, some 1, some 2, some 3, some 4, some 5] hQ
    · have htr : tree A (f + 1) L s = if (A L).2 = 0 ∧ 0 ≤ (A L).1 ∧ (A L).1 < 64 then (s.1.set (A L).1.toNat (s.1.getD (A L).1.toNat 0 + 2 ^ k), s.2) else s := by
        rw [hk]
        conv => lhs; unfold tree
        rw [if_neg he]
      rw [htr] at hQ
      have he8 : decide ((A L).2 = 8) = false := decide_eq_false he
      simp (maxSteps := 1000000) (disch := (first | omega | (simp only [lnA, List.length_map, List.length_range, true_and, and_true]; (try omega); done) | fail)) only [go_sem, Int.reduceEq, Int.reduceToNat, Nat.reduceAdd, Nat.reduceMul, Nat.reduceEqDiff, ↓reduceIte]
      refine callW [] [] (newT_fn (L := L) (by omega)) ?_
      simp (maxSteps := 1000000) (disch := (first | omega | (simp only [lnA, List.length_map, List.length_range, true_and, and_true]; (try omega); done) | fail)) only [go_sem, Int.reduceEq, Int.reduceToNat, Nat.reduceAdd, Nat.reduceMul, Nat.reduceEqDiff, ↓reduceIte]
      refine callW [some 6, some 5] [] (hask) ?_
      by_cases h0 : (A L).2 = 0
      · have h0d : decide ((A L).2 = 0) = true := decide_eq_true h0
        by_cases h1 : 0 ≤ (A L).1
        · have h1d : decide (0 ≤ (A L).1) = true := decide_eq_true h1
          by_cases h2 : (A L).1 < 64
          · have h2d : decide ((A L).1 < 64) = true := decide_eq_true h2
            rw [if_pos ⟨h0, h1, h2⟩] at hQ
            obtain ⟨m, hm⟩ : ∃ m : Nat, (A L).1 = (m : Int) := ⟨(A L).1.toNat, by omega⟩
            have hB2 := (hs.2.1 m).2
            have hB3 := (hs.2.1 m).1
            have hm64 : m < s.1.length := by rw [hs.1]; omega
            have hkp : (2 : Int) ^ (f + 1) = ((2 ^ k : Nat) : Int) := by rw [hk]; simp
            rw [hm, Int.toNat_natCast, hk, hkp] at hQ
            rw [hkp] at hB
            generalize 2 ^ k = W at *
            rw [hm] at h1d h2d hask
            simp (maxSteps := 1000000) (disch := (first | omega | (simp only [lnA, List.length_map, List.length_range, true_and, and_true]; (try omega); done) | fail)) only [go_sem, hml, Int.toNat_natCast, hsh, hlm, he8, h0d, h1d, h2d, hm, ofV_at, ofV_wr, Int.reduceEq, Int.reduceToNat, Nat.reduceAdd, Nat.reduceMul, Nat.reduceEqDiff, ↓reduceIte]
            exact endW [some 0, some 1, some 2, some 3, some 4, some 5] hQ
          · have h2d : decide ((A L).1 < 64) = false := decide_eq_false h2
            rw [if_neg (fun h => h2 h.2.2)] at hQ
            simp (maxSteps := 1000000) (disch := (first | omega | (simp only [lnA, List.length_map, List.length_range, true_and, and_true]; (try omega); done) | fail)) only [go_sem, hml, Int.toNat_natCast, hsh, hlm, he8, h0d, h1d, h2d, Int.reduceEq, Int.reduceToNat, Nat.reduceAdd, Nat.reduceMul, Nat.reduceEqDiff, ↓reduceIte]
            exact endW [some 0, some 1, some 2, some 3, some 4, some 5] hQ
        · have h1d : decide (0 ≤ (A L).1) = false := decide_eq_false h1
          rw [if_neg (fun h => h1 h.2.1)] at hQ
          simp (maxSteps := 1000000) (disch := (first | omega | (simp only [lnA, List.length_map, List.length_range, true_and, and_true]; (try omega); done) | fail)) only [go_sem, hml, Int.toNat_natCast, hsh, hlm, he8, h0d, h1d, Int.reduceEq, Int.reduceToNat, Nat.reduceAdd, Nat.reduceMul, Nat.reduceEqDiff, ↓reduceIte]
          exact endW [some 0, some 1, some 2, some 3, some 4, some 5] hQ
      · have h0d : decide ((A L).2 = 0) = false := decide_eq_false h0
        rw [if_neg (fun h => h0 h.1)] at hQ
        simp (maxSteps := 1000000) (disch := (first | omega | (simp only [lnA, List.length_map, List.length_range, true_and, and_true]; (try omega); done) | fail)) only [go_sem, hml, Int.toNat_natCast, hsh, hlm, he8, h0d, Int.reduceEq, Int.reduceToNat, Nat.reduceAdd, Nat.reduceMul, Nat.reduceEqDiff, ↓reduceIte]
        exact endW [some 0, some 1, some 2, some 3, some 4, some 5] hQ
/-- The whole tree, of nothing yet. -/
theorem treeQ_fn {g most : Nat} {x : Rat} {A : List Bool → Int × Int} (hm : most ≤ 20) (hA : AskQ g most x A) : Fn1 Try.prog 25 [.lit (.int .i64 (most : Int)), .clo g [.ref 0 0 0 0]] [some (.cells [.row 1 ((nl (wg x.num.natAbs)).map (ie .u64)), .lit (.bool (decide (x.num < 0))), .row 1 ((nl (wg (x.den - 1))).map (ie .u64))])]
    (.tup [.agg (ofV (treeX A most).1), .lit (.int .i64 (treeX A most).2)]) [some (.cells [.row 1 ((nl (wg x.num.natAbs)).map (ie .u64)), .lit (.bool (decide (x.num < 0))), .row 1 ((nl (wg (x.den - 1))).map (ie .u64))])] := by
  refine fn1_of pl25 (by kernel_rfl) Try.call25 Try.func25 rfl (by kernel_rfl) rfl [.cell 4 56, .cell 5 3] (by kernel_rfl) fun Q hQ => ?_
  have hp : (2 : Int) ^ most ≤ 2 ^ 20 := by
    have := Nat.pow_le_pow_right (n := 2) (by decide) hm
    exact_mod_cast this
  have hone : oneC (Value.int IntKind.i64 0) = true := rfl
  have hz : List.map V.lit (List.replicate 64 (Value.int IntKind.i64 0)) = ofV (List.replicate 64 0) := by unfold ofV; rw [List.map_replicate, List.map_replicate]
  simp (maxSteps := 1000000) (disch := (first | omega | (simp only [lnA, List.length_map, List.length_range, true_and, and_true]; (try omega); done) | fail)) only [go_sem, hone, hz, or_true, Int.reduceEq, Int.reduceToNat, Nat.reduceAdd, Nat.reduceMul, Nat.reduceEqDiff, ↓reduceIte]
  refine callW [some 2, some 1, some 5, some 4, some 3, some 0] [] (walkQ_fn hm hA most [] (List.replicate 64 0, 0) 0 (by simp) tr0_ok (by omega)) ?_
  unfold treeX at hQ
  have hl := (tree_ok A most [] (List.replicate 64 0, 0) 0 tr0_ok).1
  generalize tree A most [] (List.replicate 64 0, 0) = r at *
  have hsm : ∀ (x0 x1 x2 : Option Ob) (tl : St) (p : Prop), sameV (.ref 3 0 0 0) (x0 :: x1 :: x2 :: some (.cells (ofV r.1)) :: tl) (ofV r.1) p = p := fun _ _ _ _ _ => sameV_of rfl hl
  simp (maxSteps := 1000000) (disch := (first | omega | (simp only [lnA, List.length_map, List.length_range, true_and, and_true]; (try omega); done) | fail)) only [go_sem, ofV_tk hl, ofV_all (show r.1.length = r.1.length from rfl), stE37, ofV_lenK hl, hsm, Int.reduceEq, Int.reduceToNat, Nat.reduceAdd, Nat.reduceMul, Nat.reduceEqDiff, ↓reduceIte]
  exact endW [some 0] hQ
end Go.Proofs.Ytfemchdaoihogaa
