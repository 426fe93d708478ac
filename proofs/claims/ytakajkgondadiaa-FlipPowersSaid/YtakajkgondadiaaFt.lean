import Derived.Test.YtakajkgondadiaaTa
/-! All tapes: the tree of package tallymarklaw10. -/
namespace Go.Proofs.Ytakajkgondadiaa
open Go.Eng Go.Vx
set_option linter.unusedSimpArgs false
set_option linter.unusedVariables false
set_option maxRecDepth 100000
/-- What the tree comes to: weights of yes, of no, of what isn't done. -/
def ftree (A : List Bool → Bool × Int) : Nat → List Bool → Int × Int × Int → Int × Int × Int
  | 0, L, s => if (A L).2 = 8 then (s.1, s.2.1, s.2.2 + 1) else if (A L).1 then (s.1 + 1, s.2.1, s.2.2) else (s.1, s.2.1 + 1, s.2.2)
  | f + 1, L, s => if (A L).2 = 8 then ftree A f (L ++ [true]) (ftree A f (L ++ [false]) s) else if (A L).1 then (s.1 + 2 ^ (f + 1), s.2.1, s.2.2) else (s.1, s.2.1 + 2 ^ (f + 1), s.2.2)
def FtOk (B : Int) (s : Int × Int × Int) : Prop := 0 ≤ s.1 ∧ s.1 ≤ B ∧ 0 ≤ s.2.1 ∧ s.2.1 ≤ B ∧ 0 ≤ s.2.2 ∧ s.2.2 ≤ B
theorem FtOk.mono {B C : Int} {s : Int × Int × Int} (h : FtOk B s) (hBC : B ≤ C) : FtOk C s := by unfold FtOk at *; omega
theorem ftree_ok (A : List Bool → Bool × Int) : ∀ f L s B, FtOk B s → FtOk (B + 2 ^ f) (ftree A f L s)
  | 0, L, s, B, h => by
    unfold ftree FtOk at *
    rw [Int.pow_zero]
    split
    · simp only; omega
    · split
      · simp only; omega
      · simp only; omega
  | f + 1, L, s, B, h => by
    have hp : (0 : Int) ≤ 2 ^ f := Int.pow_nonneg (by decide)
    have e : (2 : Int) ^ (f + 1) = 2 ^ f + 2 ^ f := by rw [Int.pow_succ]; omega
    unfold ftree
    rw [e]
    generalize hx : (2 : Int) ^ f = x at *
    split
    · have h1 := ftree_ok A f (L ++ [false]) s B h
      have h2 := ftree_ok A f (L ++ [true]) _ _ h1
      rw [hx] at h2
      exact h2.mono (by omega)
    · unfold FtOk at *
      split
      · simp only; omega
      · simp only; omega
theorem sh1_f {k : Nat} (h : k < 63) : IntKind.i64.wrap (1 * 2 ^ k) = ((2 ^ k : Nat) : Int) := by
  have h1 : 2 ^ k ≤ 2 ^ 62 := Nat.pow_le_pow_right (by decide) (by omega)
  have h2 : (1 * 2 ^ k : Int) = ((2 ^ k : Nat) : Int) := by simp
  rw [h2]
  generalize 2 ^ k = x at *
  have : (x : Int) < 9223372036854775808 := by omega
  simp (maxSteps := 1000000) (disch := (first | omega | (simp only [List.length_append, List.length_set, List.length_cons, List.length_nil, List.length_replicate, List.length_take, List.length_drop, List.length_map, List.length_range, true_and, and_true]; (try omega); done) | fail)) only [go_sem, Int.reduceEq, Int.reduceToNat, Nat.reduceAdd, Nat.reduceMul, Nat.reduceEqDiff, ↓reduceIte]
theorem stE_one {P : Program} {t : TypeId} {o : Nat} {v : Value} {σ : St} {p : Prop} (ht : szOf P t = some 1) (h : σ[o]? = some (some (.cells [.lit v]))) : stE P t (.ref o 0 0 0) (.lit v) σ p = p := by
  unfold stE
  rw [ht]
  show lenK [V.lit v] 1 (sameV (.ref o 0 0 0) σ [.lit v] p) = p
  unfold lenK sameV obV atK
  dsimp only
  rw [h]
  simp [tkK, adr, litB]
/-- The whole tree, of nothing yet. -/
def ftreeX (A : List Bool → Bool × Int) (most : Nat) : Int × Int × Int := ftree A most [] (0, 0, 0)
/-- The store of the closure 'walk', of 1 caught. -/
def wkF1 (g : Nat) (most v0 : Int) (s : Int × Int × Int) : St :=
  [some (.cells [.clo g [.ref 6 0 0 0]]), some (.cells [.lit (.int .i64 most)]), some (.cells [.clo 25 [.ref 0 0 0 0, .ref 1 0 0 0, .ref 2 0 0 0, .ref 3 0 0 0, .ref 4 0 0 0, .ref 5 0 0 0]]), some (.cells [.lit (.int .i64 s.2.2)]), some (.cells [.lit (.int .i64 s.1)]), some (.cells [.lit (.int .i64 s.2.1)]), some (.cells [.lit (.int .i64 v0)])]
attribute [go_sem] wkF1
def FskOk1 (g : Nat) (most : Nat) (v0 : Int) (A : List Bool → Bool × Int) : Prop := ∀ L : List Bool, L.length ≤ most → ∃ q d, Fn1 Try.prog g [.ref 0 0 0 0, .ref 1 0 0 0] [some (tpC L 0 false), some (.cells [.lit (.int .i64 v0)])]
  (.tup [.lit (.bool (A L).1), .lit (.int .i64 (A L).2)]) [some (tpC L q d), some (.cells [.lit (.int .i64 v0)])]
set_option maxHeartbeats 2000000 in
theorem fwalk1_fn {g most : Nat} {v0 : Int} {A : List Bool → Bool × Int} (hm : most ≤ 20) (hA : FskOk1 g most v0 A) : ∀ (f : Nat) (L : List Bool) (s : Int × Int × Int) (B : Int), L.length + f = most → FtOk B s → B + 2 ^ f ≤ 1099511627776 →
    Fn1 Try.prog 25 [.row 1 (L.map be), .ref 0 0 0 0, .ref 1 0 0 0, .ref 2 0 0 0, .ref 3 0 0 0, .ref 4 0 0 0, .ref 5 0 0 0] (wkF1 g most v0 s) (.tup []) (wkF1 g most v0 (ftree A f L s)) := by
  intro f
  induction f with
  | zero =>
    intro L s B hf hs hB
    refine fn1_of pl25 (by kernel_rfl) Try.call25 Try.func25 rfl (by kernel_rfl) rfl [] (by kernel_rfl) fun Q hQ => ?_
    obtain ⟨q, d, hask⟩ := hA L (by omega)
    have hml : (most : Int) - (L.length : Int) = ((0 : Nat) : Int) := by omega
    have hlm : decide ((L.length : Int) < (most : Int)) = false := decide_eq_false (by omega)
    have hsh : IntKind.i64.wrap (1 * 2 ^ 0) = 1 := sh1_f (k := 0) (by omega)
    rw [Int.pow_zero] at hB
    unfold FtOk at hs
    unfold ftree at hQ
    generalize A L = r at *
    obtain ⟨is, e⟩ := r
    obtain ⟨y, no, o⟩ := s
    dsimp only at hs hQ hask
    by_cases he : e = 8
    · subst he
      rw [if_pos rfl] at hQ
      simp (maxSteps := 1000000) (disch := (first | omega | (simp only [List.length_append, List.length_set, List.length_cons, List.length_nil, List.length_replicate, List.length_take, List.length_drop, List.length_map, List.length_range, true_and, and_true]; (try omega); done) | fail)) only [go_sem, Int.reduceEq, Int.reduceToNat, Nat.reduceAdd, Nat.reduceMul, Nat.reduceEqDiff, ↓reduceIte]
      refine callW [] [] (newT_fn (L := L) (by omega)) ?_
      simp (maxSteps := 1000000) (disch := (first | omega | (simp only [List.length_append, List.length_set, List.length_cons, List.length_nil, List.length_replicate, List.length_take, List.length_drop, List.length_map, List.length_range, true_and, and_true]; (try omega); done) | fail)) only [go_sem, Int.reduceEq, Int.reduceToNat, Nat.reduceAdd, Nat.reduceMul, Nat.reduceEqDiff, ↓reduceIte]
      refine callW [some 7, some 6] [] (hask) ?_
      simp (maxSteps := 1000000) (disch := (first | omega | (simp only [List.length_append, List.length_set, List.length_cons, List.length_nil, List.length_replicate, List.length_take, List.length_drop, List.length_map, List.length_range, true_and, and_true]; (try omega); done) | fail)) only [go_sem, hml, Int.toNat_natCast, hsh, hlm, Int.reduceEq, Int.reduceToNat, Nat.reduceAdd, Nat.reduceMul, Nat.reduceEqDiff, ↓reduceIte]
      exact endW [some 0, some 1, some 2, some 3, some 4, some 5, some 6] hQ
    · rw [if_neg he] at hQ
      have he8 : decide (e = 8) = false := decide_eq_false he
      cases is with
      | true =>
        rw [if_pos rfl] at hQ
        simp (maxSteps := 1000000) (disch := (first | omega | (simp only [List.length_append, List.length_set, List.length_cons, List.length_nil, List.length_replicate, List.length_take, List.length_drop, List.length_map, List.length_range, true_and, and_true]; (try omega); done) | fail)) only [go_sem, Int.reduceEq, Int.reduceToNat, Nat.reduceAdd, Nat.reduceMul, Nat.reduceEqDiff, ↓reduceIte]
        refine callW [] [] (newT_fn (L := L) (by omega)) ?_
        simp (maxSteps := 1000000) (disch := (first | omega | (simp only [List.length_append, List.length_set, List.length_cons, List.length_nil, List.length_replicate, List.length_take, List.length_drop, List.length_map, List.length_range, true_and, and_true]; (try omega); done) | fail)) only [go_sem, Int.reduceEq, Int.reduceToNat, Nat.reduceAdd, Nat.reduceMul, Nat.reduceEqDiff, ↓reduceIte]
        refine callW [some 7, some 6] [] (hask) ?_
        simp (maxSteps := 1000000) (disch := (first | omega | (simp only [List.length_append, List.length_set, List.length_cons, List.length_nil, List.length_replicate, List.length_take, List.length_drop, List.length_map, List.length_range, true_and, and_true]; (try omega); done) | fail)) only [go_sem, hml, Int.toNat_natCast, hsh, hlm, he8, Int.reduceEq, Int.reduceToNat, Nat.reduceAdd, Nat.reduceMul, Nat.reduceEqDiff, ↓reduceIte]
        exact endW [some 0, some 1, some 2, some 3, some 4, some 5, some 6] hQ
      | false =>
        rw [if_neg (by simp)] at hQ
        simp (maxSteps := 1000000) (disch := (first | omega | (simp only [List.length_append, List.length_set, List.length_cons, List.length_nil, List.length_replicate, List.length_take, List.length_drop, List.length_map, List.length_range, true_and, and_true]; (try omega); done) | fail)) only [go_sem, Int.reduceEq, Int.reduceToNat, Nat.reduceAdd, Nat.reduceMul, Nat.reduceEqDiff, ↓reduceIte]
        refine callW [] [] (newT_fn (L := L) (by omega)) ?_
        simp (maxSteps := 1000000) (disch := (first | omega | (simp only [List.length_append, List.length_set, List.length_cons, List.length_nil, List.length_replicate, List.length_take, List.length_drop, List.length_map, List.length_range, true_and, and_true]; (try omega); done) | fail)) only [go_sem, Int.reduceEq, Int.reduceToNat, Nat.reduceAdd, Nat.reduceMul, Nat.reduceEqDiff, ↓reduceIte]
        refine callW [some 7, some 6] [] (hask) ?_
        simp (maxSteps := 1000000) (disch := (first | omega | (simp only [List.length_append, List.length_set, List.length_cons, List.length_nil, List.length_replicate, List.length_take, List.length_drop, List.length_map, List.length_range, true_and, and_true]; (try omega); done) | fail)) only [go_sem, hml, Int.toNat_natCast, hsh, hlm, he8, Int.reduceEq, Int.reduceToNat, Nat.reduceAdd, Nat.reduceMul, Nat.reduceEqDiff, ↓reduceIte]
        exact endW [some 0, some 1, some 2, some 3, some 4, some 5, some 6] hQ
  | succ f ih =>
    intro L s B hf hs hB
    refine fn1_of pl25 (by kernel_rfl) Try.call25 Try.func25 rfl (by kernel_rfl) rfl [] (by kernel_rfl) fun Q hQ => ?_
    obtain ⟨q, d, hask⟩ := hA L (by omega)
    obtain ⟨k, hk⟩ : ∃ k, k = f + 1 := ⟨_, rfl⟩
    have hml : (most : Int) - (L.length : Int) = (k : Int) := by omega
    have hlm : (L.length : Int) < (most : Int) := by omega
    have hsh := sh1_f (k := k) (by omega)
    have hp2 : (0 : Int) ≤ 2 ^ f := Int.pow_nonneg (by decide)
    have he2 : (2 : Int) ^ (f + 1) = 2 ^ f + 2 ^ f := by rw [Int.pow_succ]; omega
    by_cases he : (A L).2 = 8
    · have htr : ftree A (f + 1) L s = ftree A f (L ++ [true]) (ftree A f (L ++ [false]) s) := by
        conv => lhs; unfold ftree
        rw [if_pos he]
      rw [htr] at hQ
      rw [he] at hask
      simp (maxSteps := 1000000) (disch := (first | omega | (simp only [List.length_append, List.length_set, List.length_cons, List.length_nil, List.length_replicate, List.length_take, List.length_drop, List.length_map, List.length_range, true_and, and_true]; (try omega); done) | fail)) only [go_sem, Int.reduceEq, Int.reduceToNat, Nat.reduceAdd, Nat.reduceMul, Nat.reduceEqDiff, ↓reduceIte]
      refine callW [] [] (newT_fn (L := L) (by omega)) ?_
      simp (maxSteps := 1000000) (disch := (first | omega | (simp only [List.length_append, List.length_set, List.length_cons, List.length_nil, List.length_replicate, List.length_take, List.length_drop, List.length_map, List.length_range, true_and, and_true]; (try omega); done) | fail)) only [go_sem, Int.reduceEq, Int.reduceToNat, Nat.reduceAdd, Nat.reduceMul, Nat.reduceEqDiff, ↓reduceIte]
      refine callW [some 7, some 6] [] (hask) ?_
      simp (maxSteps := 1000000) (disch := (first | omega | (simp only [List.length_append, List.length_set, List.length_cons, List.length_nil, List.length_replicate, List.length_take, List.length_drop, List.length_map, List.length_range, true_and, and_true]; (try omega); done) | fail)) only [go_sem, hml, Int.toNat_natCast, hsh, hlm, List.take_length, Int.reduceEq, Int.reduceToNat, Nat.reduceAdd, Nat.reduceMul, Nat.reduceEqDiff, ↓reduceIte]
      refine callW [some 0, some 1, some 2, some 3, some 4, some 5, some 6] [9] (ih (L ++ [false]) s B (by simp; omega) hs (by omega)) ?_
      simp (maxSteps := 1000000) (disch := (first | omega | (simp only [List.length_append, List.length_set, List.length_cons, List.length_nil, List.length_replicate, List.length_take, List.length_drop, List.length_map, List.length_range, true_and, and_true]; (try omega); done) | fail)) only [go_sem, hml, Int.toNat_natCast, hsh, hlm, List.take_length, Int.reduceEq, Int.reduceToNat, Nat.reduceAdd, Nat.reduceMul, Nat.reduceEqDiff, ↓reduceIte]
      refine callW [some 0, some 1, some 2, some 3, some 4, some 5, some 6] [11] (ih (L ++ [true]) (ftree A f (L ++ [false]) s) (B + 2 ^ f) (by simp; omega) (ftree_ok A f _ s B hs) (by omega)) ?_
      simp (maxSteps := 1000000) (disch := (first | omega | (simp only [List.length_append, List.length_set, List.length_cons, List.length_nil, List.length_replicate, List.length_take, List.length_drop, List.length_map, List.length_range, true_and, and_true]; (try omega); done) | fail)) only [go_sem, Int.reduceEq, Int.reduceToNat, Nat.reduceAdd, Nat.reduceMul, Nat.reduceEqDiff, ↓reduceIte]
      exact endW [some 0, some 1, some 2, some 3, some 4, some 5, some 6] hQ
    · have hkp : (2 : Int) ^ (f + 1) = ((2 ^ k : Nat) : Int) := by rw [hk]; simp
      have htr : ftree A (f + 1) L s = if (A L).1 then (s.1 + ((2 ^ k : Nat) : Int), s.2.1, s.2.2) else (s.1, s.2.1 + ((2 ^ k : Nat) : Int), s.2.2) := by
        rw [← hkp]
        conv => lhs; unfold ftree
        rw [if_neg he]
      rw [htr] at hQ
      rw [hkp] at hB
      unfold FtOk at hs
      have he8 : decide ((A L).2 = 8) = false := decide_eq_false he
      generalize A L = r at *
      obtain ⟨is, e⟩ := r
      obtain ⟨y, no, o⟩ := s
      dsimp only at hs hQ hask he8
      generalize 2 ^ k = W at *
      cases is with
      | true =>
        rw [if_pos rfl] at hQ
        simp (maxSteps := 1000000) (disch := (first | omega | (simp only [List.length_append, List.length_set, List.length_cons, List.length_nil, List.length_replicate, List.length_take, List.length_drop, List.length_map, List.length_range, true_and, and_true]; (try omega); done) | fail)) only [go_sem, Int.reduceEq, Int.reduceToNat, Nat.reduceAdd, Nat.reduceMul, Nat.reduceEqDiff, ↓reduceIte]
        refine callW [] [] (newT_fn (L := L) (by omega)) ?_
        simp (maxSteps := 1000000) (disch := (first | omega | (simp only [List.length_append, List.length_set, List.length_cons, List.length_nil, List.length_replicate, List.length_take, List.length_drop, List.length_map, List.length_range, true_and, and_true]; (try omega); done) | fail)) only [go_sem, Int.reduceEq, Int.reduceToNat, Nat.reduceAdd, Nat.reduceMul, Nat.reduceEqDiff, ↓reduceIte]
        refine callW [some 7, some 6] [] (hask) ?_
        simp (maxSteps := 1000000) (disch := (first | omega | (simp only [List.length_append, List.length_set, List.length_cons, List.length_nil, List.length_replicate, List.length_take, List.length_drop, List.length_map, List.length_range, true_and, and_true]; (try omega); done) | fail)) only [go_sem, hml, Int.toNat_natCast, hsh, hlm, he8, Int.reduceEq, Int.reduceToNat, Nat.reduceAdd, Nat.reduceMul, Nat.reduceEqDiff, ↓reduceIte]
        exact endW [some 0, some 1, some 2, some 3, some 4, some 5, some 6] hQ
      | false =>
        rw [if_neg (by simp)] at hQ
        simp (maxSteps := 1000000) (disch := (first | omega | (simp only [List.length_append, List.length_set, List.length_cons, List.length_nil, List.length_replicate, List.length_take, List.length_drop, List.length_map, List.length_range, true_and, and_true]; (try omega); done) | fail)) only [go_sem, Int.reduceEq, Int.reduceToNat, Nat.reduceAdd, Nat.reduceMul, Nat.reduceEqDiff, ↓reduceIte]
        refine callW [] [] (newT_fn (L := L) (by omega)) ?_
        simp (maxSteps := 1000000) (disch := (first | omega | (simp only [List.length_append, List.length_set, List.length_cons, List.length_nil, List.length_replicate, List.length_take, List.length_drop, List.length_map, List.length_range, true_and, and_true]; (try omega); done) | fail)) only [go_sem, Int.reduceEq, Int.reduceToNat, Nat.reduceAdd, Nat.reduceMul, Nat.reduceEqDiff, ↓reduceIte]
        refine callW [some 7, some 6] [] (hask) ?_
        simp (maxSteps := 1000000) (disch := (first | omega | (simp only [List.length_append, List.length_set, List.length_cons, List.length_nil, List.length_replicate, List.length_take, List.length_drop, List.length_map, List.length_range, true_and, and_true]; (try omega); done) | fail)) only [go_sem, hml, Int.toNat_natCast, hsh, hlm, he8, Int.reduceEq, Int.reduceToNat, Nat.reduceAdd, Nat.reduceMul, Nat.reduceEqDiff, ↓reduceIte]
        exact endW [some 0, some 1, some 2, some 3, some 4, some 5, some 6] hQ
theorem ftree1_fn {g most : Nat} {v0 : Int} {A : List Bool → Bool × Int} (hm : most ≤ 20) (hA : FskOk1 g most v0 A) : Fn1 Try.prog 8 [.lit (.int .i64 (most : Int)), .clo g [.ref 0 0 0 0]] [some (.cells [.lit (.int .i64 v0)])]
    (.tup [.lit (.int .i64 (ftreeX A most).1), .lit (.int .i64 (ftreeX A most).2.1), .lit (.int .i64 (ftreeX A most).2.2)]) [some (.cells [.lit (.int .i64 v0)])] := by
  refine fn1_of pl8 (by kernel_rfl) Try.call8 Try.func8 rfl (by kernel_rfl) rfl [.cell 4 3, .cell 5 3, .cell 6 3] (by kernel_rfl) fun Q hQ => ?_
  have hp : (2 : Int) ^ most ≤ 2 ^ 20 := by
    have := Nat.pow_le_pow_right (n := 2) (by decide) hm
    exact_mod_cast this
  simp (maxSteps := 1000000) (disch := (first | omega | (simp only [List.length_append, List.length_set, List.length_cons, List.length_nil, List.length_replicate, List.length_take, List.length_drop, List.length_map, List.length_range, true_and, and_true]; (try omega); done) | fail)) only [go_sem, Int.reduceEq, Int.reduceToNat, Nat.reduceAdd, Nat.reduceMul, Nat.reduceEqDiff, ↓reduceIte]
  refine callW [some 2, some 1, some 6, some 5, some 3, some 4, some 0] [] (fwalk1_fn hm hA most [] (0, 0, 0) 0 (by simp) (by unfold FtOk; simp) (by omega)) ?_
  unfold ftreeX at hQ
  generalize ftree A most [] (0, 0, 0) = r at *
  simp (maxSteps := 1000000) (disch := (first | omega | (simp only [List.length_append, List.length_set, List.length_cons, List.length_nil, List.length_replicate, List.length_take, List.length_drop, List.length_map, List.length_range, true_and, and_true]; (try omega); done) | fail)) only [go_sem, Int.reduceEq, Int.reduceToNat, Nat.reduceAdd, Nat.reduceMul, Nat.reduceEqDiff, ↓reduceIte]
  rw [stE_one (by kernel_rfl) (by rfl), stE_one (by kernel_rfl) (by rfl)]
  exact endW [some 0] hQ
/-- The store of the closure 'walk', of 2 caught. -/
def wkF2 (g : Nat) (most v0 v1 : Int) (s : Int × Int × Int) : St :=
  [some (.cells [.clo g [.ref 6 0 0 0, .ref 7 0 0 0]]), some (.cells [.lit (.int .i64 most)]), some (.cells [.clo 25 [.ref 0 0 0 0, .ref 1 0 0 0, .ref 2 0 0 0, .ref 3 0 0 0, .ref 4 0 0 0, .ref 5 0 0 0]]), some (.cells [.lit (.int .i64 s.2.2)]), some (.cells [.lit (.int .i64 s.1)]), some (.cells [.lit (.int .i64 s.2.1)]), some (.cells [.lit (.int .i64 v0)]), some (.cells [.lit (.int .i64 v1)])]
attribute [go_sem] wkF2
def FskOk2 (g : Nat) (most : Nat) (v0 v1 : Int) (A : List Bool → Bool × Int) : Prop := ∀ L : List Bool, L.length ≤ most → ∃ q d, Fn1 Try.prog g [.ref 0 0 0 0, .ref 1 0 0 0, .ref 2 0 0 0] [some (tpC L 0 false), some (.cells [.lit (.int .i64 v0)]), some (.cells [.lit (.int .i64 v1)])]
  (.tup [.lit (.bool (A L).1), .lit (.int .i64 (A L).2)]) [some (tpC L q d), some (.cells [.lit (.int .i64 v0)]), some (.cells [.lit (.int .i64 v1)])]
set_option maxHeartbeats 2000000 in
theorem fwalk2_fn {g most : Nat} {v0 v1 : Int} {A : List Bool → Bool × Int} (hm : most ≤ 20) (hA : FskOk2 g most v0 v1 A) : ∀ (f : Nat) (L : List Bool) (s : Int × Int × Int) (B : Int), L.length + f = most → FtOk B s → B + 2 ^ f ≤ 1099511627776 →
    Fn1 Try.prog 25 [.row 1 (L.map be), .ref 0 0 0 0, .ref 1 0 0 0, .ref 2 0 0 0, .ref 3 0 0 0, .ref 4 0 0 0, .ref 5 0 0 0] (wkF2 g most v0 v1 s) (.tup []) (wkF2 g most v0 v1 (ftree A f L s)) := by
  intro f
  induction f with
  | zero =>
    intro L s B hf hs hB
    refine fn1_of pl25 (by kernel_rfl) Try.call25 Try.func25 rfl (by kernel_rfl) rfl [] (by kernel_rfl) fun Q hQ => ?_
    obtain ⟨q, d, hask⟩ := hA L (by omega)
    have hml : (most : Int) - (L.length : Int) = ((0 : Nat) : Int) := by omega
    have hlm : decide ((L.length : Int) < (most : Int)) = false := decide_eq_false (by omega)
    have hsh : IntKind.i64.wrap (1 * 2 ^ 0) = 1 := sh1_f (k := 0) (by omega)
    rw [Int.pow_zero] at hB
    unfold FtOk at hs
    unfold ftree at hQ
    generalize A L = r at *
    obtain ⟨is, e⟩ := r
    obtain ⟨y, no, o⟩ := s
    dsimp only at hs hQ hask
    by_cases he : e = 8
    · subst he
      rw [if_pos rfl] at hQ
      simp (maxSteps := 1000000) (disch := (first | omega | (simp only [List.length_append, List.length_set, List.length_cons, List.length_nil, List.length_replicate, List.length_take, List.length_drop, List.length_map, List.length_range, true_and, and_true]; (try omega); done) | fail)) only [go_sem, Int.reduceEq, Int.reduceToNat, Nat.reduceAdd, Nat.reduceMul, Nat.reduceEqDiff, ↓reduceIte]
      refine callW [] [] (newT_fn (L := L) (by omega)) ?_
      simp (maxSteps := 1000000) (disch := (first | omega | (simp only [List.length_append, List.length_set, List.length_cons, List.length_nil, List.length_replicate, List.length_take, List.length_drop, List.length_map, List.length_range, true_and, and_true]; (try omega); done) | fail)) only [go_sem, Int.reduceEq, Int.reduceToNat, Nat.reduceAdd, Nat.reduceMul, Nat.reduceEqDiff, ↓reduceIte]
      refine callW [some 8, some 6, some 7] [] (hask) ?_
      simp (maxSteps := 1000000) (disch := (first | omega | (simp only [List.length_append, List.length_set, List.length_cons, List.length_nil, List.length_replicate, List.length_take, List.length_drop, List.length_map, List.length_range, true_and, and_true]; (try omega); done) | fail)) only [go_sem, hml, Int.toNat_natCast, hsh, hlm, Int.reduceEq, Int.reduceToNat, Nat.reduceAdd, Nat.reduceMul, Nat.reduceEqDiff, ↓reduceIte]
      exact endW [some 0, some 1, some 2, some 3, some 4, some 5, some 6, some 7] hQ
    · rw [if_neg he] at hQ
      have he8 : decide (e = 8) = false := decide_eq_false he
      cases is with
      | true =>
        rw [if_pos rfl] at hQ
        simp (maxSteps := 1000000) (disch := (first | omega | (simp only [List.length_append, List.length_set, List.length_cons, List.length_nil, List.length_replicate, List.length_take, List.length_drop, List.length_map, List.length_range, true_and, and_true]; (try omega); done) | fail)) only [go_sem, Int.reduceEq, Int.reduceToNat, Nat.reduceAdd, Nat.reduceMul, Nat.reduceEqDiff, ↓reduceIte]
        refine callW [] [] (newT_fn (L := L) (by omega)) ?_
        simp (maxSteps := 1000000) (disch := (first | omega | (simp only [List.length_append, List.length_set, List.length_cons, List.length_nil, List.length_replicate, List.length_take, List.length_drop, List.length_map, List.length_range, true_and, and_true]; (try omega); done) | fail)) only [go_sem, Int.reduceEq, Int.reduceToNat, Nat.reduceAdd, Nat.reduceMul, Nat.reduceEqDiff, ↓reduceIte]
        refine callW [some 8, some 6, some 7] [] (hask) ?_
        simp (maxSteps := 1000000) (disch := (first | omega | (simp only [List.length_append, List.length_set, List.length_cons, List.length_nil, List.length_replicate, List.length_take, List.length_drop, List.length_map, List.length_range, true_and, and_true]; (try omega); done) | fail)) only [go_sem, hml, Int.toNat_natCast, hsh, hlm, he8, Int.reduceEq, Int.reduceToNat, Nat.reduceAdd, Nat.reduceMul, Nat.reduceEqDiff, ↓reduceIte]
        exact endW [some 0, some 1, some 2, some 3, some 4, some 5, some 6, some 7] hQ
      | false =>
        rw [if_neg (by simp)] at hQ
        simp (maxSteps := 1000000) (disch := (first | omega | (simp only [List.length_append, List.length_set, List.length_cons, List.length_nil, List.length_replicate, List.length_take, List.length_drop, List.length_map, List.length_range, true_and, and_true]; (try omega); done) | fail)) only [go_sem, Int.reduceEq, Int.reduceToNat, Nat.reduceAdd, Nat.reduceMul, Nat.reduceEqDiff, ↓reduceIte]
        refine callW [] [] (newT_fn (L := L) (by omega)) ?_
        simp (maxSteps := 1000000) (disch := (first | omega | (simp only [List.length_append, List.length_set, List.length_cons, List.length_nil, List.length_replicate, List.length_take, List.length_drop, List.length_map, List.length_range, true_and, and_true]; (try omega); done) | fail)) only [go_sem, Int.reduceEq, Int.reduceToNat, Nat.reduceAdd, Nat.reduceMul, Nat.reduceEqDiff, ↓reduceIte]
        refine callW [some 8, some 6, some 7] [] (hask) ?_
        simp (maxSteps := 1000000) (disch := (first | omega | (simp only [List.length_append, List.length_set, List.length_cons, List.length_nil, List.length_replicate, List.length_take, List.length_drop, List.length_map, List.length_range, true_and, and_true]; (try omega); done) | fail)) only [go_sem, hml, Int.toNat_natCast, hsh, hlm, he8, Int.reduceEq, Int.reduceToNat, Nat.reduceAdd, Nat.reduceMul, Nat.reduceEqDiff, ↓reduceIte]
        exact endW [some 0, some 1, some 2, some 3, some 4, some 5, some 6, some 7] hQ
  | succ f ih =>
    intro L s B hf hs hB
    refine fn1_of pl25 (by kernel_rfl) Try.call25 Try.func25 rfl (by kernel_rfl) rfl [] (by kernel_rfl) fun Q hQ => ?_
    obtain ⟨q, d, hask⟩ := hA L (by omega)
    obtain ⟨k, hk⟩ : ∃ k, k = f + 1 := ⟨_, rfl⟩
    have hml : (most : Int) - (L.length : Int) = (k : Int) := by omega
    have hlm : (L.length : Int) < (most : Int) := by omega
    have hsh := sh1_f (k := k) (by omega)
    have hp2 : (0 : Int) ≤ 2 ^ f := Int.pow_nonneg (by decide)
    have he2 : (2 : Int) ^ (f + 1) = 2 ^ f + 2 ^ f := by rw [Int.pow_succ]; omega
    by_cases he : (A L).2 = 8
    · have htr : ftree A (f + 1) L s = ftree A f (L ++ [true]) (ftree A f (L ++ [false]) s) := by
        conv => lhs; unfold ftree
        rw [if_pos he]
      rw [htr] at hQ
      rw [he] at hask
      simp (maxSteps := 1000000) (disch := (first | omega | (simp only [List.length_append, List.length_set, List.length_cons, List.length_nil, List.length_replicate, List.length_take, List.length_drop, List.length_map, List.length_range, true_and, and_true]; (try omega); done) | fail)) only [go_sem, Int.reduceEq, Int.reduceToNat, Nat.reduceAdd, Nat.reduceMul, Nat.reduceEqDiff, ↓reduceIte]
      refine callW [] [] (newT_fn (L := L) (by omega)) ?_
      simp (maxSteps := 1000000) (disch := (first | omega | (simp only [List.length_append, List.length_set, List.length_cons, List.length_nil, List.length_replicate, List.length_take, List.length_drop, List.length_map, List.length_range, true_and, and_true]; (try omega); done) | fail)) only [go_sem, Int.reduceEq, Int.reduceToNat, Nat.reduceAdd, Nat.reduceMul, Nat.reduceEqDiff, ↓reduceIte]
      refine callW [some 8, some 6, some 7] [] (hask) ?_
      simp (maxSteps := 1000000) (disch := (first | omega | (simp only [List.length_append, List.length_set, List.length_cons, List.length_nil, List.length_replicate, List.length_take, List.length_drop, List.length_map, List.length_range, true_and, and_true]; (try omega); done) | fail)) only [go_sem, hml, Int.toNat_natCast, hsh, hlm, List.take_length, Int.reduceEq, Int.reduceToNat, Nat.reduceAdd, Nat.reduceMul, Nat.reduceEqDiff, ↓reduceIte]
      refine callW [some 0, some 1, some 2, some 3, some 4, some 5, some 6, some 7] [10] (ih (L ++ [false]) s B (by simp; omega) hs (by omega)) ?_
      simp (maxSteps := 1000000) (disch := (first | omega | (simp only [List.length_append, List.length_set, List.length_cons, List.length_nil, List.length_replicate, List.length_take, List.length_drop, List.length_map, List.length_range, true_and, and_true]; (try omega); done) | fail)) only [go_sem, hml, Int.toNat_natCast, hsh, hlm, List.take_length, Int.reduceEq, Int.reduceToNat, Nat.reduceAdd, Nat.reduceMul, Nat.reduceEqDiff, ↓reduceIte]
      refine callW [some 0, some 1, some 2, some 3, some 4, some 5, some 6, some 7] [12] (ih (L ++ [true]) (ftree A f (L ++ [false]) s) (B + 2 ^ f) (by simp; omega) (ftree_ok A f _ s B hs) (by omega)) ?_
      simp (maxSteps := 1000000) (disch := (first | omega | (simp only [List.length_append, List.length_set, List.length_cons, List.length_nil, List.length_replicate, List.length_take, List.length_drop, List.length_map, List.length_range, true_and, and_true]; (try omega); done) | fail)) only [go_sem, Int.reduceEq, Int.reduceToNat, Nat.reduceAdd, Nat.reduceMul, Nat.reduceEqDiff, ↓reduceIte]
      exact endW [some 0, some 1, some 2, some 3, some 4, some 5, some 6, some 7] hQ
    · have hkp : (2 : Int) ^ (f + 1) = ((2 ^ k : Nat) : Int) := by rw [hk]; simp
      have htr : ftree A (f + 1) L s = if (A L).1 then (s.1 + ((2 ^ k : Nat) : Int), s.2.1, s.2.2) else (s.1, s.2.1 + ((2 ^ k : Nat) : Int), s.2.2) := by
        rw [← hkp]
        conv => lhs; unfold ftree
        rw [if_neg he]
      rw [htr] at hQ
      rw [hkp] at hB
      unfold FtOk at hs
      have he8 : decide ((A L).2 = 8) = false := decide_eq_false he
      generalize A L = r at *
      obtain ⟨is, e⟩ := r
      obtain ⟨y, no, o⟩ := s
      dsimp only at hs hQ hask he8
      generalize 2 ^ k = W at *
      cases is with
      | true =>
        rw [if_pos rfl] at hQ
        simp (maxSteps := 1000000) (disch := (first | omega | (simp only [List.length_append, List.length_set, List.length_cons, List.length_nil, List.length_replicate, List.length_take, List.length_drop, List.length_map, List.length_range, true_and, and_true]; (try omega); done) | fail)) only [go_sem, Int.reduceEq, Int.reduceToNat, Nat.reduceAdd, Nat.reduceMul, Nat.reduceEqDiff, ↓reduceIte]
        refine callW [] [] (newT_fn (L := L) (by omega)) ?_
        simp (maxSteps := 1000000) (disch := (first | omega | (simp only [List.length_append, List.length_set, List.length_cons, List.length_nil, List.length_replicate, List.length_take, List.length_drop, List.length_map, List.length_range, true_and, and_true]; (try omega); done) | fail)) only [go_sem, Int.reduceEq, Int.reduceToNat, Nat.reduceAdd, Nat.reduceMul, Nat.reduceEqDiff, ↓reduceIte]
        refine callW [some 8, some 6, some 7] [] (hask) ?_
        simp (maxSteps := 1000000) (disch := (first | omega | (simp only [List.length_append, List.length_set, List.length_cons, List.length_nil, List.length_replicate, List.length_take, List.length_drop, List.length_map, List.length_range, true_and, and_true]; (try omega); done) | fail)) only [go_sem, hml, Int.toNat_natCast, hsh, hlm, he8, Int.reduceEq, Int.reduceToNat, Nat.reduceAdd, Nat.reduceMul, Nat.reduceEqDiff, ↓reduceIte]
        exact endW [some 0, some 1, some 2, some 3, some 4, some 5, some 6, some 7] hQ
      | false =>
        rw [if_neg (by simp)] at hQ
        simp (maxSteps := 1000000) (disch := (first | omega | (simp only [List.length_append, List.length_set, List.length_cons, List.length_nil, List.length_replicate, List.length_take, List.length_drop, List.length_map, List.length_range, true_and, and_true]; (try omega); done) | fail)) only [go_sem, Int.reduceEq, Int.reduceToNat, Nat.reduceAdd, Nat.reduceMul, Nat.reduceEqDiff, ↓reduceIte]
        refine callW [] [] (newT_fn (L := L) (by omega)) ?_
        simp (maxSteps := 1000000) (disch := (first | omega | (simp only [List.length_append, List.length_set, List.length_cons, List.length_nil, List.length_replicate, List.length_take, List.length_drop, List.length_map, List.length_range, true_and, and_true]; (try omega); done) | fail)) only [go_sem, Int.reduceEq, Int.reduceToNat, Nat.reduceAdd, Nat.reduceMul, Nat.reduceEqDiff, ↓reduceIte]
        refine callW [some 8, some 6, some 7] [] (hask) ?_
        simp (maxSteps := 1000000) (disch := (first | omega | (simp only [List.length_append, List.length_set, List.length_cons, List.length_nil, List.length_replicate, List.length_take, List.length_drop, List.length_map, List.length_range, true_and, and_true]; (try omega); done) | fail)) only [go_sem, hml, Int.toNat_natCast, hsh, hlm, he8, Int.reduceEq, Int.reduceToNat, Nat.reduceAdd, Nat.reduceMul, Nat.reduceEqDiff, ↓reduceIte]
        exact endW [some 0, some 1, some 2, some 3, some 4, some 5, some 6, some 7] hQ
theorem ftree2_fn {g most : Nat} {v0 v1 : Int} {A : List Bool → Bool × Int} (hm : most ≤ 20) (hA : FskOk2 g most v0 v1 A) : Fn1 Try.prog 8 [.lit (.int .i64 (most : Int)), .clo g [.ref 0 0 0 0, .ref 1 0 0 0]] [some (.cells [.lit (.int .i64 v0)]), some (.cells [.lit (.int .i64 v1)])]
    (.tup [.lit (.int .i64 (ftreeX A most).1), .lit (.int .i64 (ftreeX A most).2.1), .lit (.int .i64 (ftreeX A most).2.2)]) [some (.cells [.lit (.int .i64 v0)]), some (.cells [.lit (.int .i64 v1)])] := by
  refine fn1_of pl8 (by kernel_rfl) Try.call8 Try.func8 rfl (by kernel_rfl) rfl [.cell 4 3, .cell 5 3, .cell 6 3] (by kernel_rfl) fun Q hQ => ?_
  have hp : (2 : Int) ^ most ≤ 2 ^ 20 := by
    have := Nat.pow_le_pow_right (n := 2) (by decide) hm
    exact_mod_cast this
  simp (maxSteps := 1000000) (disch := (first | omega | (simp only [List.length_append, List.length_set, List.length_cons, List.length_nil, List.length_replicate, List.length_take, List.length_drop, List.length_map, List.length_range, true_and, and_true]; (try omega); done) | fail)) only [go_sem, Int.reduceEq, Int.reduceToNat, Nat.reduceAdd, Nat.reduceMul, Nat.reduceEqDiff, ↓reduceIte]
  refine callW [some 3, some 2, some 7, some 6, some 4, some 5, some 0, some 1] [] (fwalk2_fn hm hA most [] (0, 0, 0) 0 (by simp) (by unfold FtOk; simp) (by omega)) ?_
  unfold ftreeX at hQ
  generalize ftree A most [] (0, 0, 0) = r at *
  simp (maxSteps := 1000000) (disch := (first | omega | (simp only [List.length_append, List.length_set, List.length_cons, List.length_nil, List.length_replicate, List.length_take, List.length_drop, List.length_map, List.length_range, true_and, and_true]; (try omega); done) | fail)) only [go_sem, Int.reduceEq, Int.reduceToNat, Nat.reduceAdd, Nat.reduceMul, Nat.reduceEqDiff, ↓reduceIte]
  rw [stE_one (by kernel_rfl) (by rfl), stE_one (by kernel_rfl) (by rfl)]
  exact endW [some 0, some 1] hQ
/-- The store of the closure 'walk', of 3 caught. -/
def wkF3 (g : Nat) (most v0 v1 v2 : Int) (s : Int × Int × Int) : St :=
  [some (.cells [.clo g [.ref 6 0 0 0, .ref 7 0 0 0, .ref 8 0 0 0]]), some (.cells [.lit (.int .i64 most)]), some (.cells [.clo 25 [.ref 0 0 0 0, .ref 1 0 0 0, .ref 2 0 0 0, .ref 3 0 0 0, .ref 4 0 0 0, .ref 5 0 0 0]]), some (.cells [.lit (.int .i64 s.2.2)]), some (.cells [.lit (.int .i64 s.1)]), some (.cells [.lit (.int .i64 s.2.1)]), some (.cells [.lit (.int .i64 v0)]), some (.cells [.lit (.int .i64 v1)]), some (.cells [.lit (.int .i64 v2)])]
attribute [go_sem] wkF3
def FskOk3 (g : Nat) (most : Nat) (v0 v1 v2 : Int) (A : List Bool → Bool × Int) : Prop := ∀ L : List Bool, L.length ≤ most → ∃ q d, Fn1 Try.prog g [.ref 0 0 0 0, .ref 1 0 0 0, .ref 2 0 0 0, .ref 3 0 0 0] [some (tpC L 0 false), some (.cells [.lit (.int .i64 v0)]), some (.cells [.lit (.int .i64 v1)]), some (.cells [.lit (.int .i64 v2)])]
  (.tup [.lit (.bool (A L).1), .lit (.int .i64 (A L).2)]) [some (tpC L q d), some (.cells [.lit (.int .i64 v0)]), some (.cells [.lit (.int .i64 v1)]), some (.cells [.lit (.int .i64 v2)])]
set_option maxHeartbeats 2000000 in
theorem fwalk3_fn {g most : Nat} {v0 v1 v2 : Int} {A : List Bool → Bool × Int} (hm : most ≤ 20) (hA : FskOk3 g most v0 v1 v2 A) : ∀ (f : Nat) (L : List Bool) (s : Int × Int × Int) (B : Int), L.length + f = most → FtOk B s → B + 2 ^ f ≤ 1099511627776 →
    Fn1 Try.prog 25 [.row 1 (L.map be), .ref 0 0 0 0, .ref 1 0 0 0, .ref 2 0 0 0, .ref 3 0 0 0, .ref 4 0 0 0, .ref 5 0 0 0] (wkF3 g most v0 v1 v2 s) (.tup []) (wkF3 g most v0 v1 v2 (ftree A f L s)) := by
  intro f
  induction f with
  | zero =>
    intro L s B hf hs hB
    refine fn1_of pl25 (by kernel_rfl) Try.call25 Try.func25 rfl (by kernel_rfl) rfl [] (by kernel_rfl) fun Q hQ => ?_
    obtain ⟨q, d, hask⟩ := hA L (by omega)
    have hml : (most : Int) - (L.length : Int) = ((0 : Nat) : Int) := by omega
    have hlm : decide ((L.length : Int) < (most : Int)) = false := decide_eq_false (by omega)
    have hsh : IntKind.i64.wrap (1 * 2 ^ 0) = 1 := sh1_f (k := 0) (by omega)
    rw [Int.pow_zero] at hB
    unfold FtOk at hs
    unfold ftree at hQ
    generalize A L = r at *
    obtain ⟨is, e⟩ := r
    obtain ⟨y, no, o⟩ := s
    dsimp only at hs hQ hask
    by_cases he : e = 8
    · subst he
      rw [if_pos rfl] at hQ
      simp (maxSteps := 1000000) (disch := (first | omega | (simp only [List.length_append, List.length_set, List.length_cons, List.length_nil, List.length_replicate, List.length_take, List.length_drop, List.length_map, List.length_range, true_and, and_true]; (try omega); done) | fail)) only [go_sem, Int.reduceEq, Int.reduceToNat, Nat.reduceAdd, Nat.reduceMul, Nat.reduceEqDiff, ↓reduceIte]
      refine callW [] [] (newT_fn (L := L) (by omega)) ?_
      simp (maxSteps := 1000000) (disch := (first | omega | (simp only [List.length_append, List.length_set, List.length_cons, List.length_nil, List.length_replicate, List.length_take, List.length_drop, List.length_map, List.length_range, true_and, and_true]; (try omega); done) | fail)) only [go_sem, Int.reduceEq, Int.reduceToNat, Nat.reduceAdd, Nat.reduceMul, Nat.reduceEqDiff, ↓reduceIte]
      refine callW [some 9, some 6, some 7, some 8] [] (hask) ?_
      simp (maxSteps := 1000000) (disch := (first | omega | (simp only [List.length_append, List.length_set, List.length_cons, List.length_nil, List.length_replicate, List.length_take, List.length_drop, List.length_map, List.length_range, true_and, and_true]; (try omega); done) | fail)) only [go_sem, hml, Int.toNat_natCast, hsh, hlm, Int.reduceEq, Int.reduceToNat, Nat.reduceAdd, Nat.reduceMul, Nat.reduceEqDiff, ↓reduceIte]
      exact endW [some 0, some 1, some 2, some 3, some 4, some 5, some 6, some 7, some 8] hQ
    · rw [if_neg he] at hQ
      have he8 : decide (e = 8) = false := decide_eq_false he
      cases is with
      | true =>
        rw [if_pos rfl] at hQ
        simp (maxSteps := 1000000) (disch := (first | omega | (simp only [List.length_append, List.length_set, List.length_cons, List.length_nil, List.length_replicate, List.length_take, List.length_drop, List.length_map, List.length_range, true_and, and_true]; (try omega); done) | fail)) only [go_sem, Int.reduceEq, Int.reduceToNat, Nat.reduceAdd, Nat.reduceMul, Nat.reduceEqDiff, ↓reduceIte]
        refine callW [] [] (newT_fn (L := L) (by omega)) ?_
        simp (maxSteps := 1000000) (disch := (first | omega | (simp only [List.length_append, List.length_set, List.length_cons, List.length_nil, List.length_replicate, List.length_take, List.length_drop, List.length_map, List.length_range, true_and, and_true]; (try omega); done) | fail)) only [go_sem, Int.reduceEq, Int.reduceToNat, Nat.reduceAdd, Nat.reduceMul, Nat.reduceEqDiff, ↓reduceIte]
        refine callW [some 9, some 6, some 7, some 8] [] (hask) ?_
        simp (maxSteps := 1000000) (disch := (first | omega | (simp only [List.length_append, List.length_set, List.length_cons, List.length_nil, List.length_replicate, List.length_take, List.length_drop, List.length_map, List.length_range, true_and, and_true]; (try omega); done) | fail)) only [go_sem, hml, Int.toNat_natCast, hsh, hlm, he8, Int.reduceEq, Int.reduceToNat, Nat.reduceAdd, Nat.reduceMul, Nat.reduceEqDiff, ↓reduceIte]
        exact endW [some 0, some 1, some 2, some 3, some 4, some 5, some 6, some 7, some 8] hQ
      | false =>
        rw [if_neg (by simp)] at hQ
        simp (maxSteps := 1000000) (disch := (first | omega | (simp only [List.length_append, List.length_set, List.length_cons, List.length_nil, List.length_replicate, List.length_take, List.length_drop, List.length_map, List.length_range, true_and, and_true]; (try omega); done) | fail)) only [go_sem, Int.reduceEq, Int.reduceToNat, Nat.reduceAdd, Nat.reduceMul, Nat.reduceEqDiff, ↓reduceIte]
        refine callW [] [] (newT_fn (L := L) (by omega)) ?_
        simp (maxSteps := 1000000) (disch := (first | omega | (simp only [List.length_append, List.length_set, List.length_cons, List.length_nil, List.length_replicate, List.length_take, List.length_drop, List.length_map, List.length_range, true_and, and_true]; (try omega); done) | fail)) only [go_sem, Int.reduceEq, Int.reduceToNat, Nat.reduceAdd, Nat.reduceMul, Nat.reduceEqDiff, ↓reduceIte]
        refine callW [some 9, some 6, some 7, some 8] [] (hask) ?_
        simp (maxSteps := 1000000) (disch := (first | omega | (simp only [List.length_append, List.length_set, List.length_cons, List.length_nil, List.length_replicate, List.length_take, List.length_drop, List.length_map, List.length_range, true_and, and_true]; (try omega); done) | fail)) only [go_sem, hml, Int.toNat_natCast, hsh, hlm, he8, Int.reduceEq, Int.reduceToNat, Nat.reduceAdd, Nat.reduceMul, Nat.reduceEqDiff, ↓reduceIte]
        exact endW [some 0, some 1, some 2, some 3, some 4, some 5, some 6, some 7, some 8] hQ
  | succ f ih =>
    intro L s B hf hs hB
    refine fn1_of pl25 (by kernel_rfl) Try.call25 Try.func25 rfl (by kernel_rfl) rfl [] (by kernel_rfl) fun Q hQ => ?_
    obtain ⟨q, d, hask⟩ := hA L (by omega)
    obtain ⟨k, hk⟩ : ∃ k, k = f + 1 := ⟨_, rfl⟩
    have hml : (most : Int) - (L.length : Int) = (k : Int) := by omega
    have hlm : (L.length : Int) < (most : Int) := by omega
    have hsh := sh1_f (k := k) (by omega)
    have hp2 : (0 : Int) ≤ 2 ^ f := Int.pow_nonneg (by decide)
    have he2 : (2 : Int) ^ (f + 1) = 2 ^ f + 2 ^ f := by rw [Int.pow_succ]; omega
    by_cases he : (A L).2 = 8
    · have htr : ftree A (f + 1) L s = ftree A f (L ++ [true]) (ftree A f (L ++ [false]) s) := by
        conv => lhs; unfold ftree
        rw [if_pos he]
      rw [htr] at hQ
      rw [he] at hask
      simp (maxSteps := 1000000) (disch := (first | omega | (simp only [List.length_append, List.length_set, List.length_cons, List.length_nil, List.length_replicate, List.length_take, List.length_drop, List.length_map, List.length_range, true_and, and_true]; (try omega); done) | fail)) only [go_sem, Int.reduceEq, Int.reduceToNat, Nat.reduceAdd, Nat.reduceMul, Nat.reduceEqDiff, ↓reduceIte]
      refine callW [] [] (newT_fn (L := L) (by omega)) ?_
      simp (maxSteps := 1000000) (disch := (first | omega | (simp only [List.length_append, List.length_set, List.length_cons, List.length_nil, List.length_replicate, List.length_take, List.length_drop, List.length_map, List.length_range, true_and, and_true]; (try omega); done) | fail)) only [go_sem, Int.reduceEq, Int.reduceToNat, Nat.reduceAdd, Nat.reduceMul, Nat.reduceEqDiff, ↓reduceIte]
      refine callW [some 9, some 6, some 7, some 8] [] (hask) ?_
      simp (maxSteps := 1000000) (disch := (first | omega | (simp only [List.length_append, List.length_set, List.length_cons, List.length_nil, List.length_replicate, List.length_take, List.length_drop, List.length_map, List.length_range, true_and, and_true]; (try omega); done) | fail)) only [go_sem, hml, Int.toNat_natCast, hsh, hlm, List.take_length, Int.reduceEq, Int.reduceToNat, Nat.reduceAdd, Nat.reduceMul, Nat.reduceEqDiff, ↓reduceIte]
      refine callW [some 0, some 1, some 2, some 3, some 4, some 5, some 6, some 7, some 8] [11] (ih (L ++ [false]) s B (by simp; omega) hs (by omega)) ?_
      simp (maxSteps := 1000000) (disch := (first | omega | (simp only [List.length_append, List.length_set, List.length_cons, List.length_nil, List.length_replicate, List.length_take, List.length_drop, List.length_map, List.length_range, true_and, and_true]; (try omega); done) | fail)) only [go_sem, hml, Int.toNat_natCast, hsh, hlm, List.take_length, Int.reduceEq, Int.reduceToNat, Nat.reduceAdd, Nat.reduceMul, Nat.reduceEqDiff, ↓reduceIte]
      refine callW [some 0, some 1, some 2, some 3, some 4, some 5, some 6, some 7, some 8] [13] (ih (L ++ [true]) (ftree A f (L ++ [false]) s) (B + 2 ^ f) (by simp; omega) (ftree_ok A f _ s B hs) (by omega)) ?_
      simp (maxSteps := 1000000) (disch := (first | omega | (simp only [List.length_append, List.length_set, List.length_cons, List.length_nil, List.length_replicate, List.length_take, List.length_drop, List.length_map, List.length_range, true_and, and_true]; (try omega); done) | fail)) only [go_sem, Int.reduceEq, Int.reduceToNat, Nat.reduceAdd, Nat.reduceMul, Nat.reduceEqDiff, ↓reduceIte]
      exact endW [some 0, some 1, some 2, some 3, some 4, some 5, some 6, some 7, some 8] hQ
    · have hkp : (2 : Int) ^ (f + 1) = ((2 ^ k : Nat) : Int) := by rw [hk]; simp
      have htr : ftree A (f + 1) L s = if (A L).1 then (s.1 + ((2 ^ k : Nat) : Int), s.2.1, s.2.2) else (s.1, s.2.1 + ((2 ^ k : Nat) : Int), s.2.2) := by
        rw [← hkp]
        conv => lhs; unfold ftree
        rw [if_neg he]
      rw [htr] at hQ
      rw [hkp] at hB
      unfold FtOk at hs
      have he8 : decide ((A L).2 = 8) = false := decide_eq_false he
      generalize A L = r at *
      obtain ⟨is, e⟩ := r
      obtain ⟨y, no, o⟩ := s
      dsimp only at hs hQ hask he8
      generalize 2 ^ k = W at *
      cases is with
      | true =>
        rw [if_pos rfl] at hQ
        simp (maxSteps := 1000000) (disch := (first | omega | (simp only [List.length_append, List.length_set, List.length_cons, List.length_nil, List.length_replicate, List.length_take, List.length_drop, List.length_map, List.length_range, true_and, and_true]; (try omega); done) | fail)) only [go_sem, Int.reduceEq, Int.reduceToNat, Nat.reduceAdd, Nat.reduceMul, Nat.reduceEqDiff, ↓reduceIte]
        refine callW [] [] (newT_fn (L := L) (by omega)) ?_
        simp (maxSteps := 1000000) (disch := (first | omega | (simp only [List.length_append, List.length_set, List.length_cons, List.length_nil, List.length_replicate, List.length_take, List.length_drop, List.length_map, List.length_range, true_and, and_true]; (try omega); done) | fail)) only [go_sem, Int.reduceEq, Int.reduceToNat, Nat.reduceAdd, Nat.reduceMul, Nat.reduceEqDiff, ↓reduceIte]
        refine callW [some 9, some 6, some 7, some 8] [] (hask) ?_
        simp (maxSteps := 1000000) (disch := (first | omega | (simp only [List.length_append, List.length_set, List.length_cons, List.length_nil, List.length_replicate, List.length_take, List.length_drop, List.length_map, List.length_range, true_and, and_true]; (try omega); done) | fail)) only [go_sem, hml, Int.toNat_natCast, hsh, hlm, he8, Int.reduceEq, Int.reduceToNat, Nat.reduceAdd, Nat.reduceMul, Nat.reduceEqDiff, ↓reduceIte]
        exact endW [some 0, some 1, some 2, some 3, some 4, some 5, some 6, some 7, some 8] hQ
      | false =>
        rw [if_neg (by simp)] at hQ
        simp (maxSteps := 1000000) (disch := (first | omega | (simp only [List.length_append, List.length_set, List.length_cons, List.length_nil, List.length_replicate, List.length_take, List.length_drop, List.length_map, List.length_range, true_and, and_true]; (try omega); done) | fail)) only [go_sem, Int.reduceEq, Int.reduceToNat, Nat.reduceAdd, Nat.reduceMul, Nat.reduceEqDiff, ↓reduceIte]
        refine callW [] [] (newT_fn (L := L) (by omega)) ?_
        simp (maxSteps := 1000000) (disch := (first | omega | (simp only [List.length_append, List.length_set, List.length_cons, List.length_nil, List.length_replicate, List.length_take, List.length_drop, List.length_map, List.length_range, true_and, and_true]; (try omega); done) | fail)) only [go_sem, Int.reduceEq, Int.reduceToNat, Nat.reduceAdd, Nat.reduceMul, Nat.reduceEqDiff, ↓reduceIte]
        refine callW [some 9, some 6, some 7, some 8] [] (hask) ?_
        simp (maxSteps := 1000000) (disch := (first | omega | (simp only [List.length_append, List.length_set, List.length_cons, List.length_nil, List.length_replicate, List.length_take, List.length_drop, List.length_map, List.length_range, true_and, and_true]; (try omega); done) | fail)) only [go_sem, hml, Int.toNat_natCast, hsh, hlm, he8, Int.reduceEq, Int.reduceToNat, Nat.reduceAdd, Nat.reduceMul, Nat.reduceEqDiff, ↓reduceIte]
        exact endW [some 0, some 1, some 2, some 3, some 4, some 5, some 6, some 7, some 8] hQ
theorem ftree3_fn {g most : Nat} {v0 v1 v2 : Int} {A : List Bool → Bool × Int} (hm : most ≤ 20) (hA : FskOk3 g most v0 v1 v2 A) : Fn1 Try.prog 8 [.lit (.int .i64 (most : Int)), .clo g [.ref 0 0 0 0, .ref 1 0 0 0, .ref 2 0 0 0]] [some (.cells [.lit (.int .i64 v0)]), some (.cells [.lit (.int .i64 v1)]), some (.cells [.lit (.int .i64 v2)])]
    (.tup [.lit (.int .i64 (ftreeX A most).1), .lit (.int .i64 (ftreeX A most).2.1), .lit (.int .i64 (ftreeX A most).2.2)]) [some (.cells [.lit (.int .i64 v0)]), some (.cells [.lit (.int .i64 v1)]), some (.cells [.lit (.int .i64 v2)])] := by
  refine fn1_of pl8 (by kernel_rfl) Try.call8 Try.func8 rfl (by kernel_rfl) rfl [.cell 4 3, .cell 5 3, .cell 6 3] (by kernel_rfl) fun Q hQ => ?_
  have hp : (2 : Int) ^ most ≤ 2 ^ 20 := by
    have := Nat.pow_le_pow_right (n := 2) (by decide) hm
    exact_mod_cast this
  simp (maxSteps := 1000000) (disch := (first | omega | (simp only [List.length_append, List.length_set, List.length_cons, List.length_nil, List.length_replicate, List.length_take, List.length_drop, List.length_map, List.length_range, true_and, and_true]; (try omega); done) | fail)) only [go_sem, Int.reduceEq, Int.reduceToNat, Nat.reduceAdd, Nat.reduceMul, Nat.reduceEqDiff, ↓reduceIte]
  refine callW [some 4, some 3, some 8, some 7, some 5, some 6, some 0, some 1, some 2] [] (fwalk3_fn hm hA most [] (0, 0, 0) 0 (by simp) (by unfold FtOk; simp) (by omega)) ?_
  unfold ftreeX at hQ
  generalize ftree A most [] (0, 0, 0) = r at *
  simp (maxSteps := 1000000) (disch := (first | omega | (simp only [List.length_append, List.length_set, List.length_cons, List.length_nil, List.length_replicate, List.length_take, List.length_drop, List.length_map, List.length_range, true_and, and_true]; (try omega); done) | fail)) only [go_sem, Int.reduceEq, Int.reduceToNat, Nat.reduceAdd, Nat.reduceMul, Nat.reduceEqDiff, ↓reduceIte]
  rw [stE_one (by kernel_rfl) (by rfl), stE_one (by kernel_rfl) (by rfl)]
  exact endW [some 0, some 1, some 2] hQ
end Go.Proofs.Ytakajkgondadiaa
