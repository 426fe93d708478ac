import Derived.Test.YtfemchdaoihogaaTb
/-! All tapes: the tree of package tallymarklaw11. -/
namespace Go.Proofs.Ytfemchdaoihogaa
open Go.Eng Go.Vx
set_option linter.unusedSimpArgs false
set_option linter.unusedVariables false
set_option maxRecDepth 100000
/-- Cells of numbers, one behind the other. -/
def ofV (l : List Int) : List V := l.map fun x => V.lit (.int .i64 x)
theorem ofV_len (l : List Int) : (ofV l).length = l.length := by simp [ofV]
theorem ofV_at {l : List Int} {m : Nat} {G : V → Prop} (h : m < l.length) : atK (ofV l) m G = G (.lit (.int .i64 (l.getD m 0))) := by
  unfold atK ofV
  rw [List.getElem?_map, List.getElem?_eq_getElem h, List.getD_eq_getElem?_getD, List.getElem?_eq_getElem h]
  rfl
theorem ofV_set {l : List Int} {m : Nat} {x : Int} : (ofV l).set m (.lit (.int .i64 x)) = ofV (l.set m x) := by unfold ofV; rw [List.map_set]
theorem ofV_wr {l : List Int} {m : Nat} {x : Int} {G : List V → Prop} (h : m < l.length) : wrK (ofV l) m [.lit (.int .i64 x)] G = G (ofV (l.set m x)) := by
  rw [wrK_one (by rw [ofV_len]; exact h), ofV_set]
theorem ofV_tk {l : List Int} {G : List V → Prop} (h : l.length = 64) : tkK (ofV l) 0 64 G = G (ofV l) := by
  unfold tkK
  rw [ofV_len, if_pos (by omega), List.drop_zero, List.take_of_length_le (by rw [ofV_len]; omega)]
theorem ofV_all {l c : List Int} {G : List V → Prop} (h : l.length = c.length) : wrK (ofV l) 0 (ofV c) G = G (ofV c) := by
  unfold wrK
  rw [ofV_len, ofV_len, if_pos (by omega), Nat.zero_add, List.take_zero, List.nil_append, List.drop_eq_nil_of_le (by rw [ofV_len]; omega), List.append_nil]
theorem ofV_lenK {l : List Int} {p : Prop} (h : l.length = 64) : lenK (ofV l) 64 p = p := by
  unfold lenK
  rw [ofV_len, if_pos h]
theorem ofV_lit (l : List Int) : (ofV l).all litB = true := List.all_eq_true.2 fun u hu => by
  unfold ofV at hu
  obtain ⟨x, _, rfl⟩ := List.mem_map.1 hu
  rfl
theorem stE37 {u v : V} {σ : St} {p : Prop} : stE Try.prog 56 u v σ p = clK v fun c => lenK c 64 (sameV u σ c p) := by
  have h : szOf Try.prog 56 = some 64 := by kernel_rfl
  unfold stE
  rw [h]
theorem sameV_of {o : Nat} {σ : St} {l : List Int} {p : Prop} (h : σ[o]? = some (some (.cells (ofV l)))) (hl : l.length = 64) : sameV (.ref o 0 0 0) σ (ofV l) p = p := by
  have e : sameV (.ref o 0 0 0) σ (ofV l) p = tkK (ofV l) 0 64 fun c' => c' = ofV l ∧ (ofV l).all litB = true ∧ p := by
    unfold sameV obV atK
    dsimp only
    rw [h]
    dsimp only
    rw [ofV_len, hl]
    rfl
  rw [e, ofV_tk hl, ofV_lit]
  simp
theorem ofV_pln (l : List Int) : pln.plnL (ofV l) = true := by
  induction l with
  | nil => rfl
  | cons x l ih =>
    show (true && pln.plnL (ofV l)) = true
    rw [ih]; rfl
theorem mVs_ofV {ok : Nat → Bool} {π : Pi} {σ : St} {l : List Int} : mVs ok π σ (ofV l) (ofV l) = True := eq_true (mVs_pln (ofV_pln l))
theorem renL_ofV {f : Nat → Nat} {l : List Int} : renL f (ofV l) = ofV l := renL_pln (ofV_pln l)
attribute [go_sem ↓] mVs_ofV renL_ofV
/-- What the tree comes to: weights of answers, and of what isn't done. -/
def tree (A : List Bool → Int × Int) : Nat → List Bool → List Int × Int → List Int × Int
  | 0, L, s => if (A L).2 = 8 then (s.1, s.2 + 1) else if (A L).2 = 0 ∧ 0 ≤ (A L).1 ∧ (A L).1 < 64 then (s.1.set (A L).1.toNat (s.1.getD (A L).1.toNat 0 + 1), s.2) else s
  | f + 1, L, s => if (A L).2 = 8 then tree A f (L ++ [true]) (tree A f (L ++ [false]) s) else if (A L).2 = 0 ∧ 0 ≤ (A L).1 ∧ (A L).1 < 64 then (s.1.set (A L).1.toNat (s.1.getD (A L).1.toNat 0 + 2 ^ (f + 1)), s.2) else s
def TrOk (B : Int) (s : List Int × Int) : Prop := s.1.length = 64 ∧ (∀ k, 0 ≤ s.1.getD k 0 ∧ s.1.getD k 0 ≤ B) ∧ 0 ≤ s.2 ∧ s.2 ≤ B
theorem TrOk.mono {B C : Int} {s : List Int × Int} (h : TrOk B s) (hBC : B ≤ C) : TrOk C s := ⟨h.1, fun k => ⟨(h.2.1 k).1, by have := (h.2.1 k).2; omega⟩, h.2.2.1, by have := h.2.2.2; omega⟩
theorem TrOk.set {B W : Int} {s : List Int × Int} {m : Nat} (h : TrOk B s) (hW : 0 ≤ W) : TrOk (B + W) (s.1.set m (s.1.getD m 0 + W), s.2) := by
  refine ⟨by simpa using h.1, fun k => ?_, h.2.2.1, by have := h.2.2.2; simp only; omega⟩
  have hk := h.2.1 k
  by_cases e : m = k
  · subst e
    by_cases hm : m < s.1.length
    · rw [show (s.1.set m (s.1.getD m 0 + W)).getD m 0 = s.1.getD m 0 + W by simp [List.getD_eq_getElem?_getD, hm]]
      omega
    · rw [List.set_eq_of_length_le (by omega)]
      show 0 ≤ s.1.getD m 0 ∧ s.1.getD m 0 ≤ B + W
      omega
  · rw [show (s.1.set m (s.1.getD m 0 + W)).getD k 0 = s.1.getD k 0 by simp only [List.getD_eq_getElem?_getD]; rw [List.getElem?_set_ne e]]
    omega
theorem tree_ok (A : List Bool → Int × Int) : ∀ f L s B, TrOk B s → TrOk (B + 2 ^ f) (tree A f L s)
  | 0, L, s, B, h => by
    unfold tree
    split
    · exact ⟨h.1, fun k => ⟨(h.2.1 k).1, by have := (h.2.1 k).2; simp only; omega⟩, by have := h.2.2.1; simp only; omega, by have := h.2.2.2; simp only; omega⟩
    · split
      · have := h.set (m := (A L).1.toNat) (W := 1) (by decide)
        simpa using this
      · exact h.mono (by rw [Int.pow_zero]; omega)
  | f + 1, L, s, B, h => by
    have hp : (0 : Int) ≤ 2 ^ f := Int.pow_nonneg (by decide)
    have e : (2 : Int) ^ (f + 1) = 2 ^ f + 2 ^ f := by rw [Int.pow_succ]; omega
    unfold tree
    split
    · have h1 := tree_ok A f (L ++ [false]) s B h
      have h2 := tree_ok A f (L ++ [true]) _ _ h1
      rw [e]
      exact h2.mono (by omega)
    · split
      · exact h.set (by rw [e]; omega)
      · exact h.mono (by rw [e]; omega)
theorem sh1_n {k : Nat} (h : k < 63) : IntKind.i64.wrap (1 * 2 ^ k) = ((2 ^ k : Nat) : Int) := by
  have h1 : 2 ^ k ≤ 2 ^ 62 := Nat.pow_le_pow_right (by decide) (by omega)
  have h2 : (1 * 2 ^ k : Int) = ((2 ^ k : Nat) : Int) := by simp
  rw [h2]
  generalize 2 ^ k = x at *
  have : (x : Int) < 9223372036854775808 := by omega
  simp (maxSteps := 1000000) (disch := (first | omega | (simp only [lnA, List.length_map, List.length_range, true_and, and_true]; (try omega); done) | fail)) only [go_sem, Int.reduceEq, Int.reduceToNat, Nat.reduceAdd, Nat.reduceMul, Nat.reduceEqDiff, ↓reduceIte]
/-- The store of the closure 'walk'. -/
def wkS (g : Nat) (most v : Int) (s : List Int × Int) : St :=
  [some (.cells [.clo g [.ref 5 0 0 0]]), some (.cells [.lit (.int .i64 most)]), some (.cells [.clo 62 [.ref 0 0 0 0, .ref 1 0 0 0, .ref 2 0 0 0, .ref 3 0 0 0, .ref 4 0 0 0]]), some (.cells [.lit (.int .i64 s.2)]), some (.cells (ofV s.1)), some (.cells [.lit (.int .i64 v)])]
attribute [go_sem] wkS
def AskOk (g : Nat) (most : Nat) (v : Int) (A : List Bool → Int × Int) : Prop := ∀ L : List Bool, L.length ≤ most → ∃ q d, Fn1 Try.prog g [.ref 0 0 0 0, .ref 1 0 0 0] [some (tpC L 0 false), some (.cells [.lit (.int .i64 v)])]
  (.tup [.lit (.int .i64 (A L).1), .lit (.int .i64 (A L).2)]) [some (tpC L q d), some (.cells [.lit (.int .i64 v)])]
theorem walk_fn {g most : Nat} {v : Int} {A : List Bool → Int × Int} (hm : most ≤ 20) (hA : AskOk g most v A) : ∀ (f : Nat) (L : List Bool) (s : List Int × Int) (B : Int), L.length + f = most → TrOk B s → B + 2 ^ f ≤ 1099511627776 →
    Fn1 Try.prog 62 [.row 1 (L.map be), .ref 0 0 0 0, .ref 1 0 0 0, .ref 2 0 0 0, .ref 3 0 0 0, .ref 4 0 0 0] (wkS g most v s) (.tup []) (wkS g most v (tree A f L s)) := by
  intro f
  induction f with
  | zero =>
    intro L s B hf hs hB
    refine fn1_of pl62 (by kernel_rfl) Try.call62 Try.func62 rfl (by kernel_rfl) rfl [] (by kernel_rfl) fun Q hQ => ?_
    obtain ⟨q, d, hask⟩ := hA L (by omega)
    have hml : (most : Int) - (L.length : Int) = ((0 : Nat) : Int) := by omega
    have hlm : decide ((L.length : Int) < (most : Int)) = false := decide_eq_false (by omega)
    have hsh : IntKind.i64.wrap (1 * 2 ^ 0) = 1 := sh1_n (k := 0) (by omega)
    rw [Int.pow_zero] at hB
    by_cases he : (A L).2 = 8
    · have htr : tree A 0 L s = (s.1, s.2 + 1) := by
        unfold tree
        rw [if_pos he]
      rw [htr] at hQ
      rw [he] at hask
      have ho1 := hs.2.2.1
      have ho2 := hs.2.2.2
      simp (maxSteps := 1000000) (disch := (first | omega | (simp only [lnA, List.length_map, List.length_range, true_and, and_true]; (try omega); done) | fail)) only [go_sem, Int.reduceEq, Int.reduceToNat, Nat.reduceAdd, Nat.reduceMul, Nat.reduceEqDiff, ↓reduceIte]
      refine callW [] [] (newT_fn (L := L) (by omega)) ?_
      simp (maxSteps := 1000000) (disch := (first | omega | (simp only [lnA, List.length_map, List.length_range, true_and, and_true]; (try omega); done) | fail)) only [go_sem, Int.reduceEq, Int.reduceToNat, Nat.reduceAdd, Nat.reduceMul, Nat.reduceEqDiff, ↓reduceIte]
      refine callW [some 6, some 5] [] (hask) ?_
      simp (maxSteps := 1000000) (disch := (first | omega | (simp only [lnA, List.length_map, List.length_range, true_and, and_true]; (try omega); done) | fail)) only [go_sem, hml, Int.toNat_natCast, hsh, hlm, Int.reduceEq, Int.reduceToNat, Nat.reduceAdd, Nat.reduceMul, Nat.reduceEqDiff, ↓reduceIte]
      exact endW [some 0, some 1, some 2, some 3, some 4, some 5] hQ
    · have htr : tree A 0 L s = if (A L).2 = 0 ∧ 0 ≤ (A L).1 ∧ (A L).1 < 64 then (s.1.set (A L).1.toNat (s.1.getD (A L).1.toNat 0 + 1), s.2) else s := by
        unfold tree
        rw [if_neg he]
      rw [htr] at hQ
      have he8 : decide ((A L).2 = 8) = false := decide_eq_false he
      simp (maxSteps := 1000000) (disch := (first | omega | (simp only [lnA, List.length_map, List.length_range, true_and, and_true]; (try omega); done) | fail)) only [go_sem, Int.reduceEq, Int.reduceToNat, Nat.reduceAdd, Nat.reduceMul, Nat.reduceEqDiff, ↓reduceIte]
      refine callW [] [] (newT_fn (L := L) (by omega)) ?_
      simp (maxSteps := 1000000) (disch := (first | omega | (simp only [lnA, List.length_map, List.length_range, true_and, and_true]; (try omega); done) | fail)) only [go_sem, Int.reduceEq, Int.reduceToNat, Nat.reduceAdd, Nat.reduceMul, Nat.reduceEqDiff, ↓reduceIte]
      refine callW [some 6, some 5] [] (hask) ?_
      by_cases h0 : (A L).2 = 0
      · have h0d : decide ((A L).2 = 0) = true := decide_eq_true h0
        by_cases h1 : 0 ≤ (A L).1
        · have h1d : decide (0 ≤ (A L).1) = true := decide_eq_true h1
          by_cases h2 : (A L).1 < 64
          · have h2d : decide ((A L).1 < 64) = true := decide_eq_true h2
            rw [if_pos ⟨h0, h1, h2⟩] at hQ
            obtain ⟨m, hm⟩ : ∃ m : Nat, (A L).1 = (m : Int) := ⟨(A L).1.toNat, by omega⟩
            have hB2 := (hs.2.1 m).2
            have hB3 := (hs.2.1 m).1
            have hm64 : m < s.1.length := by rw [hs.1]; omega
            rw [hm, Int.toNat_natCast] at hQ
            rw [hm] at h1d h2d hask
            simp (maxSteps := 1000000) (disch := (first | omega | (simp only [lnA, List.length_map, List.length_range, true_and, and_true]; (try omega); done) | fail)) only [go_sem, hml, Int.toNat_natCast, hsh, hlm, he8, h0d, h1d, h2d, hm, ofV_at, ofV_wr, Int.reduceEq, Int.reduceToNat, Nat.reduceAdd, Nat.reduceMul, Nat.reduceEqDiff, ↓reduceIte]
            exact endW [some 0, some 1, some 2, some 3, some 4, some 5] hQ
          · have h2d : decide ((A L).1 < 64) = false := decide_eq_false h2
            rw [if_neg (fun h => h2 h.2.2)] at hQ
            simp (maxSteps := 1000000) (disch := (first | omega | (simp only [lnA, List.length_map, List.length_range, true_and, and_true]; (try omega); done) | fail)) only [go_sem, hml, Int.toNat_natCast, hsh, hlm, he8, h0d, h1d, h2d, Int.reduceEq, Int.reduceToNat, Nat.reduceAdd, Nat.reduceMul, Nat.reduceEqDiff, ↓reduceIte]
            exact endW [some 0, some 1, some 2, some 3, some 4, some 5] hQ
        · have h1d : decide (0 ≤ (A L).1) = false := decide_eq_false h1
          rw [if_neg (fun h => h1 h.2.1)] at hQ
          simp (maxSteps := 1000000) (disch := (first | omega | (simp only [lnA, List.length_map, List.length_range, true_and, and_true]; (try omega); done) | fail)) only [go_sem, hml, Int.toNat_natCast, hsh, hlm, he8, h0d, h1d, Int.reduceEq, Int.reduceToNat, Nat.reduceAdd, Nat.reduceMul, Nat.reduceEqDiff, ↓reduceIte]
          exact endW [some 0, some 1, some 2, some 3, some 4, some 5] hQ
      · have h0d : decide ((A L).2 = 0) = false := decide_eq_false h0
        rw [if_neg (fun h => h0 h.1)] at hQ
        simp (maxSteps := 1000000) (disch := (first | omega | (simp only [lnA, List.length_map, List.length_range, true_and, and_true]; (try omega); done) | fail)) only [go_sem, hml, Int.toNat_natCast, hsh, hlm, he8, h0d, Int.reduceEq, Int.reduceToNat, Nat.reduceAdd, Nat.reduceMul, Nat.reduceEqDiff, ↓reduceIte]
        exact endW [some 0, some 1, some 2, some 3, some 4, some 5] hQ
  | succ f ih =>
    intro L s B hf hs hB
    refine fn1_of pl62 (by kernel_rfl) Try.call62 Try.func62 rfl (by kernel_rfl) rfl [] (by kernel_rfl) fun Q hQ => ?_
    obtain ⟨q, d, hask⟩ := hA L (by omega)
    obtain ⟨k, hk⟩ : ∃ k, k = f + 1 := ⟨_, rfl⟩
    have hml : (most : Int) - (L.length : Int) = (k : Int) := by omega
    have hlm : (L.length : Int) < (most : Int) := by omega
    have hsh := sh1_n (k := k) (by omega)
    have hp2 : (0 : Int) ≤ 2 ^ f := Int.pow_nonneg (by decide)
    have he2 : (2 : Int) ^ (f + 1) = 2 ^ f + 2 ^ f := by rw [Int.pow_succ]; omega
    by_cases he : (A L).2 = 8
    · have htr : tree A (f + 1) L s = tree A f (L ++ [true]) (tree A f (L ++ [false]) s) := by
        conv => lhs; unfold tree
        rw [if_pos he]
      rw [htr] at hQ
      rw [he] at hask
      simp (maxSteps := 1000000) (disch := (first | omega | (simp only [lnA, List.length_map, List.length_range, true_and, and_true]; (try omega); done) | fail)) only [go_sem, Int.reduceEq, Int.reduceToNat, Nat.reduceAdd, Nat.reduceMul, Nat.reduceEqDiff, ↓reduceIte]
      refine callW [] [] (newT_fn (L := L) (by omega)) ?_
      simp (maxSteps := 1000000) (disch := (first | omega | (simp only [lnA, List.length_map, List.length_range, true_and, and_true]; (try omega); done) | fail)) only [go_sem, Int.reduceEq, Int.reduceToNat, Nat.reduceAdd, Nat.reduceMul, Nat.reduceEqDiff, ↓reduceIte]
      refine callW [some 6, some 5] [] (hask) ?_
      simp (maxSteps := 1000000) (disch := (first | omega | (simp only [lnA, List.length_map, List.length_range, true_and, and_true]; (try omega); done) | fail)) only [go_sem, hml, Int.toNat_natCast, hsh, hlm, List.take_length, Int.reduceEq, Int.reduceToNat, Nat.reduceAdd, Nat.reduceMul, Nat.reduceEqDiff, ↓reduceIte]
      refine callW [some 0, some 1, some 2, some 3, some 4, some 5] [8] (ih (L ++ [false]) s B (by simp; omega) hs (by omega)) ?_
      simp (maxSteps := 1000000) (disch := (first | omega | (simp only [lnA, List.length_map, List.length_range, true_and, and_true]; (try omega); done) | fail)) only [go_sem, hml, Int.toNat_natCast, hsh, hlm, List.take_length, Int.reduceEq, Int.reduceToNat, Nat.reduceAdd, Nat.reduceMul, Nat.reduceEqDiff, ↓reduceIte]
      refine callW [some 0, some 1, some 2, some 3, some 4, some 5] [10] (ih (L ++ [true]) (tree A f (L ++ [false]) s) (B + 2 ^ f) (by simp; omega) (tree_ok A f _ s B hs) (by omega)) ?_
      simp (maxSteps := 1000000) (disch := (first | omega | (simp only [lnA, List.length_map, List.length_range, true_and, and_true]; (try omega); done) | fail)) only [go_sem, Int.reduceEq, Int.reduceToNat, Nat.reduceAdd, Nat.reduceMul, Nat.reduceEqDiff, ↓reduceIte]
      exact endW [some 0, some 1, some 2, some 3, some 4, some 5] hQ
    · have htr : tree A (f + 1) L s = if (A L).2 = 0 ∧ 0 ≤ (A L).1 ∧ (A L).1 < 64 then (s.1.set (A L).1.toNat (s.1.getD (A L).1.toNat 0 + 2 ^ k), s.2) else s := by
        rw [hk]
        conv => lhs; unfold tree
        rw [if_neg he]
      rw [htr] at hQ
      have he8 : decide ((A L).2 = 8) = false := decide_eq_false he
      simp (maxSteps := 1000000) (disch := (first | omega | (simp only [lnA, List.length_map, List.length_range, true_and, and_true]; (try omega); done) | fail)) only [go_sem, Int.reduceEq, Int.reduceToNat, Nat.reduceAdd, Nat.reduceMul, Nat.reduceEqDiff, ↓reduceIte]
      refine callW [] [] (newT_fn (L := L) (by omega)) ?_
      simp (maxSteps := 1000000) (disch := (first | omega | (simp only [lnA, List.length_map, List.length_range, true_and, and_true]; (try omega); done) | fail)) only [go_sem, Int.reduceEq, Int.reduceToNat, Nat.reduceAdd, Nat.reduceMul, Nat.reduceEqDiff, ↓reduceIte]
      refine callW [some 6, some 5] [] (hask) ?_
      by_cases h0 : (A L).2 = 0
      · have h0d : decide ((A L).2 = 0) = true := decide_eq_true h0
        by_cases h1 : 0 ≤ (A L).1
        · have h1d : decide (0 ≤ (A L).1) = true := decide_eq_true h1
          by_cases h2 : (A L).1 < 64
          · have h2d : decide ((A L).1 < 64) = true := decide_eq_true h2
            rw [if_pos ⟨h0, h1, h2⟩] at hQ
            obtain ⟨m, hm⟩ : ∃ m : Nat, (A L).1 = (m : Int) := ⟨(A L).1.toNat, by omega⟩
            have hB2 := (hs.2.1 m).2
            have hB3 := (hs.2.1 m).1
            have hm64 : m < s.1.length := by rw [hs.1]; omega
            have hkp : (2 : Int) ^ (f + 1) = ((2 ^ k : Nat) : Int) := by rw [hk]; simp
            rw [hm, Int.toNat_natCast, hk, hkp] at hQ
            rw [hkp] at hB
            generalize 2 ^ k = W at *
            rw [hm] at h1d h2d hask
            simp (maxSteps := 1000000) (disch := (first | omega | (simp only [lnA, List.length_map, List.length_range, true_and, and_true]; (try omega); done) | fail)) only [go_sem, hml, Int.toNat_natCast, hsh, hlm, he8, h0d, h1d, h2d, hm, ofV_at, ofV_wr, Int.reduceEq, Int.reduceToNat, Nat.reduceAdd, Nat.reduceMul, Nat.reduceEqDiff, ↓reduceIte]
            exact endW [some 0, some 1, some 2, some 3, some 4, some 5] hQ
          · have h2d : decide ((A L).1 < 64) = false := decide_eq_false h2
            rw [if_neg (fun h => h2 h.2.2)] at hQ
            simp (maxSteps := 1000000) (disch := (first | omega | (simp only [lnA, List.length_map, List.length_range, true_and, and_true]; (try omega); done) | fail)) only [go_sem, hml, Int.toNat_natCast, hsh, hlm, he8, h0d, h1d, h2d, Int.reduceEq, Int.reduceToNat, Nat.reduceAdd, Nat.reduceMul, Nat.reduceEqDiff, ↓reduceIte]
            exact endW [some 0, some 1, some 2, some 3, some 4, some 5] hQ
        · have h1d : decide (0 ≤ (A L).1) = false := decide_eq_false h1
          rw [if_neg (fun h => h1 h.2.1)] at hQ
          simp (maxSteps := 1000000) (disch := (first | omega | (simp only [lnA, List.length_map, List.length_range, true_and, and_true]; (try omega); done) | fail)) only [go_sem, hml, Int.toNat_natCast, hsh, hlm, he8, h0d, h1d, Int.reduceEq, Int.reduceToNat, Nat.reduceAdd, Nat.reduceMul, Nat.reduceEqDiff, ↓reduceIte]
          exact endW [some 0, some 1, some 2, some 3, some 4, some 5] hQ
      · have h0d : decide ((A L).2 = 0) = false := decide_eq_false h0
        rw [if_neg (fun h => h0 h.1)] at hQ
        simp (maxSteps := 1000000) (disch := (first | omega | (simp only [lnA, List.length_map, List.length_range, true_and, and_true]; (try omega); done) | fail)) only [go_sem, hml, Int.toNat_natCast, hsh, hlm, he8, h0d, Int.reduceEq, Int.reduceToNat, Nat.reduceAdd, Nat.reduceMul, Nat.reduceEqDiff, ↓reduceIte]
        exact endW [some 0, some 1, some 2, some 3, some 4, some 5] hQ
/-- The whole tree, of nothing yet. -/
def treeX (A : List Bool → Int × Int) (most : Nat) : List Int × Int := tree A most [] (List.replicate 64 0, 0)
theorem tr0_ok : TrOk 0 (List.replicate 64 0, 0) := by
  refine ⟨by simp, fun k => ?_, by decide, by decide⟩
  have : (List.replicate 64 (0 : Int)).getD k 0 = 0 := by
    rw [List.getD_eq_getElem?_getD, List.getElem?_replicate]
    split <;> rfl
  show 0 ≤ (List.replicate 64 (0 : Int)).getD k 0 ∧ (List.replicate 64 (0 : Int)).getD k 0 ≤ 0
  rw [this]; decide
theorem tree_fn {g most : Nat} {v : Int} {A : List Bool → Int × Int} (hm : most ≤ 20) (hA : AskOk g most v A) : Fn1 Try.prog 25 [.lit (.int .i64 (most : Int)), .clo g [.ref 0 0 0 0]] [some (.cells [.lit (.int .i64 v)])]
    (.tup [.agg (ofV (treeX A most).1), .lit (.int .i64 (treeX A most).2)]) [some (.cells [.lit (.int .i64 v)])] := by
  refine fn1_of pl25 (by kernel_rfl) Try.call25 Try.func25 rfl (by kernel_rfl) rfl [.cell 4 56, .cell 5 3] (by kernel_rfl) fun Q hQ => ?_
  have hp : (2 : Int) ^ most ≤ 2 ^ 20 := by
    have := Nat.pow_le_pow_right (n := 2) (by decide) hm
    exact_mod_cast this
  have hone : oneC (Value.int IntKind.i64 0) = true := rfl
  have hz : List.map V.lit (List.replicate 64 (Value.int IntKind.i64 0)) = ofV (List.replicate 64 0) := by unfold ofV; rw [List.map_replicate, List.map_replicate]
  simp (maxSteps := 1000000) (disch := (first | omega | (simp only [lnA, List.length_map, List.length_range, true_and, and_true]; (try omega); done) | fail)) only [go_sem, hone, hz, or_true, Int.reduceEq, Int.reduceToNat, Nat.reduceAdd, Nat.reduceMul, Nat.reduceEqDiff, ↓reduceIte]
  refine callW [some 2, some 1, some 5, some 4, some 3, some 0] [] (walk_fn hm hA most [] (List.replicate 64 0, 0) 0 (by simp) tr0_ok (by omega)) ?_
  unfold treeX at hQ
  have hl := (tree_ok A most [] (List.replicate 64 0, 0) 0 tr0_ok).1
  generalize tree A most [] (List.replicate 64 0, 0) = r at *
  have hsm : ∀ (x0 x1 x2 : Option Ob) (tl : St) (p : Prop), sameV (.ref 3 0 0 0) (x0 :: x1 :: x2 :: some (.cells (ofV r.1)) :: tl) (ofV r.1) p = p := fun _ _ _ _ _ => sameV_of rfl hl
  simp (maxSteps := 1000000) (disch := (first | omega | (simp only [lnA, List.length_map, List.length_range, true_and, and_true]; (try omega); done) | fail)) only [go_sem, ofV_tk hl, ofV_all (show r.1.length = r.1.length from rfl), stE37, ofV_lenK hl, hsm, Int.reduceEq, Int.reduceToNat, Nat.reduceAdd, Nat.reduceMul, Nat.reduceEqDiff, ↓reduceIte]
  exact endW [some 0] hQ
end Go.Proofs.Ytfemchdaoihogaa
