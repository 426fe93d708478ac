import Derived.Test.YtdpekigpjihnkaaTj
/-! DrawPrefix. -/
namespace Go.Proofs.Ytdpekigpjihnkaa
open Go.Eng Go.Vx
set_option linter.unusedSimpArgs false
set_option linter.unusedVariables false
set_option maxRecDepth 100000
theorem take_of_take {L M : List Bool} {a b : Nat} (h : M.take b = L.take b) (hab : a ≤ b) : M.take a = L.take a := by
  have e := congrArg (List.take a) h
  rwa [List.take_take, List.take_take, Nat.min_eq_left hab] at e
theorem win_eq {L M : List Bool} {p w q : Nat} (h : M.take q = L.take q) (hq : p + w ≤ q) : (M.drop p).take w = (L.drop p).take w := by
  have e := congrArg (List.drop p) (take_of_take h hq)
  rw [List.drop_take, List.drop_take] at e
  rwa [show p + w - p = w by omega] at e
theorem belowR_pre {L M : List Bool} {n w : Nat} (hn : 0 < n) : ∀ f f' p x q, belowR L n w f p = (x, 0, q, false) → M.take q = L.take q → q ≤ M.length → M.length < f' + p → belowR M n w f' p = (x, 0, q, false)
  | 0, _, _, _, _, h, _, _, _ => by simp [belowR] at h
  | f + 1, f', p, x, q, h, ht, hq, hf => by
    unfold belowR at h
    by_cases hp : p + w ≤ L.length
    · rw [if_pos hp] at h
      by_cases hx : numOf ((L.drop p).take w) < n
      · rw [if_pos hx] at h
        obtain ⟨rfl, -, rfl, -⟩ : numOf ((L.drop p).take w) = x ∧ True ∧ p + w = q ∧ True := by simpa using h
        obtain ⟨g, rfl⟩ : ∃ g, f' = g + 1 := ⟨f' - 1, by omega⟩
        unfold belowR
        rw [win_eq ht (Nat.le_refl _), if_pos hq, if_pos hx]
      · rw [if_neg hx] at h
        have he := belowR_end (L := L) (n := n) (w := w) f (p + w) hp
        rw [h] at he
        dsimp only at he
        have hw : 0 < w := by
          rcases Nat.eq_zero_or_pos w with rfl | hw
          · simp [numOf_nil] at hx; omega
          · exact hw
        obtain ⟨g, rfl⟩ : ∃ g, f' = g + 1 := ⟨f' - 1, by omega⟩
        unfold belowR
        rw [win_eq ht he.1, if_pos (by omega), if_neg hx]
        exact belowR_pre hn f g (p + w) x q h ht hq (by omega)
    · rw [if_neg hp] at h
      simp at h
theorem belowR_few {L M : List Bool} {n w : Nat} : ∀ f f' p x q, belowR L n w f p = (x, 0, q, false) → M = L.take M.length → M.length < q → belowR M n w f' p = (0, 8, M.length, true)
  | _, 0, _, _, _, _, _, _ => rfl
  | 0, _ + 1, _, _, _, h, _, _ => by simp [belowR] at h
  | f + 1, f' + 1, p, x, q, h, ht, hq => by
    unfold belowR at h ⊢
    by_cases hM : p + w ≤ M.length
    · rw [if_pos hM]
      have hML : M.length ≤ L.length := by rw [ht, List.length_take]; omega
      rw [if_pos (by omega)] at h
      have hwe : (M.drop p).take w = (L.drop p).take w := win_eq (q := M.length) (by rw [List.take_length]; exact ht) hM
      rw [hwe]
      by_cases hx : numOf ((L.drop p).take w) < n
      · rw [if_pos hx] at h
        obtain ⟨-, -, rfl, -⟩ : numOf ((L.drop p).take w) = x ∧ True ∧ p + w = q ∧ True := by simpa using h
        omega
      · rw [if_neg hx] at h ⊢
        exact belowR_few f f' (p + w) x q h ht hq
    · rw [if_neg hM]
/-- What a play brings: its number, its error, how many coins it read. -/
def playX (L : List Bool) (n Y : Nat) : Nat × Int × Nat :=
  if (belowX L n 0).2.1 = 8 then (0, 8, L.length)
  else if (binX L Y (belowX L n 0).2.2.1).2.1 = 8 then ((belowX L n 0).1 * 256, 8, L.length)
  else ((belowX L n 0).1 * 256 + (binX L Y (belowX L n 0).2.2.1).1, 0, (belowX L n 0).2.2.1 + Y)
theorem binX_ok {L : List Bool} {Y p : Nat} (h : p + Y ≤ L.length) : binX L Y p = (cT ((L.drop p).take Y), 0, p + Y, false) := if_pos h
theorem binX_no {L : List Bool} {Y p : Nat} (h : ¬ p + Y ≤ L.length) : binX L Y p = (0, 8, L.length, true) := if_neg h
theorem playX_cases {L : List Bool} {n Y : Nat} (hn : 0 < n) (hY : Y ≤ 15) :
    ((playX L n Y).2.1 = 8 ∧ (playX L n Y).2.2 = L.length) ∨
    ∃ x c q, belowX L n 0 = (x, 0, q, false) ∧ q + Y ≤ L.length ∧ x < n ∧ c ≤ Y ∧ c = cT ((L.drop q).take Y) ∧ playX L n Y = (x * 256 + c, 0, q + Y) := by
  rcases belowX_cases (L := L) (n := n) (p := 0) hn with e | ⟨x, q, hx, e⟩
  · left
    unfold playX
    rw [e, if_pos rfl]
    exact ⟨rfl, rfl⟩
  · by_cases hq : q + Y ≤ L.length
    · right
      refine ⟨x, cT ((L.drop q).take Y), q, e, hq, hx, ?_, rfl, ?_⟩
      · refine Nat.le_trans (cT_le _) ?_
        rw [List.length_take]; omega
      · unfold playX
        rw [e, if_neg (by simp)]
        dsimp only
        rw [binX_ok hq, if_neg (by simp)]
    · left
      unfold playX
      rw [e, if_neg (by simp)]
      dsimp only
      rw [binX_no hq, if_pos rfl]
      exact ⟨rfl, rfl⟩
theorem playX_pre {L R : List Bool} {n Y v k : Nat} (hn : 0 < n) (hY : Y ≤ 15) (h : playX L n Y = (v, 0, k)) : playX (L.take k ++ R) n Y = (v, 0, k) := by
  rcases playX_cases (L := L) hn hY with ⟨e, -⟩ | ⟨x, c, q, hb, hq, hx, hc, hcc, e⟩
  · rw [h] at e; simp at e
  · rw [h] at e
    obtain ⟨rfl, -, rfl⟩ : v = x * 256 + c ∧ True ∧ k = q + Y := by simpa using e
    have hl : (L.take (q + Y)).length = q + Y := by rw [List.length_take]; omega
    have ht : (L.take (q + Y) ++ R).take (q + Y) = L.take (q + Y) := by rw [List.take_append_of_le_length (by omega), List.take_take, Nat.min_self]
    have hb' : belowX (L.take (q + Y) ++ R) n 0 = (x, 0, q, false) := by
      unfold belowX at hb ⊢
      exact belowR_pre hn _ _ 0 x q hb (take_of_take ht (by omega)) (by rw [List.length_append]; omega) (by omega)
    unfold playX
    rw [hb', if_neg (by simp)]
    dsimp only
    rw [binX_ok (by rw [List.length_append]; omega), if_neg (by simp)]
    rw [win_eq ht (Nat.le_refl _), ← hcc]
theorem playX_few {L : List Bool} {n Y v k : Nat} (hn : 0 < n) (hY : Y ≤ 15) (h : playX L n Y = (v, 0, k)) (hk : 0 < k) : (playX (L.take (k - 1)) n Y).2.1 = 8 := by
  rcases playX_cases (L := L) hn hY with ⟨e, -⟩ | ⟨x, c, q, hb, hq, hx, hc, hcc, e⟩
  · rw [h] at e; simp at e
  · rw [h] at e
    obtain ⟨rfl, -, rfl⟩ : v = x * 256 + c ∧ True ∧ k = q + Y := by simpa using e
    have hl : (L.take (q + Y - 1)).length = q + Y - 1 := by rw [List.length_take]; omega
    by_cases hY0 : Y = 0
    · subst hY0
      have hb' : belowX (L.take (q + 0 - 1)) n 0 = (0, 8, (L.take (q + 0 - 1)).length, true) := by
        unfold belowX at hb ⊢
        exact belowR_few _ _ 0 x q hb (by rw [hl]) (by omega)
      unfold playX
      rw [hb', if_pos rfl]
    · have hb' : belowX (L.take (q + Y - 1)) n 0 = (x, 0, q, false) := by
        unfold belowX at hb ⊢
        exact belowR_pre hn _ _ 0 x q hb (by rw [List.take_take, Nat.min_eq_left (by omega)]) (by omega) (by omega)
      unfold playX
      rw [hb', if_neg (by simp)]
      dsimp only
      rw [binX_no (by omega), if_pos rfl]
theorem or_256 {x c : Nat} (hx : x < 1048576) (hc : c < 256) : bitK .or .u64 ((x : Int) * 256) (c : Int) = ((x * 256 + c : Nat) : Int) := by
  have e : x * 256 + c = x <<< 8 ||| c := by rw [← Nat.shiftLeft_add_eq_or_of_lt (by exact hc) x]; rw [Nat.shiftLeft_eq]
  have hb : x * 256 + c < 18446744073709551616 := by omega
  have e1 : BitVec.ofInt 64 ((x : Int) * 256) = BitVec.ofNat 64 (x <<< 8) := by
    rw [Nat.shiftLeft_eq]
    apply BitVec.eq_of_toNat_eq
    rw [BitVec.toNat_ofInt, BitVec.toNat_ofNat]
    omega
  have e2 : BitVec.ofInt 64 (c : Int) = BitVec.ofNat 64 c := by
    apply BitVec.eq_of_toNat_eq
    rw [BitVec.toNat_ofInt, BitVec.toNat_ofNat]
    omega
  show IntKind.u64.wrap ((BitVec.ofInt 64 ((x : Int) * 256) ||| BitVec.ofInt 64 (c : Int)).toNat : Int) = _
  rw [e1, e2, BitVec.toNat_or, BitVec.toNat_ofNat, BitVec.toNat_ofNat, Nat.mod_eq_of_lt (by rw [Nat.shiftLeft_eq]; omega), Nat.mod_eq_of_lt (by omega), ← e]
  show (((x * 256 + c : Nat) : Int)) % 18446744073709551616 = _
  omega
theorem play_fn {L : List Bool} {n Y : Nat} (hL : L.length ≤ 1048576) (hn : 0 < n) (hn2 : n ≤ 1048576) (hY : Y ≤ 15) : Fn1 Try.prog 33 [.row 1 (L.map be), .ref 0 0 0 0, .ref 1 0 0 0] [some (.cells [.lit (.int .u64 (n : Int))]), some (.cells [.lit (.int .i64 (Y : Int))])]
    (.tup [.lit (.int .u64 ((playX L n Y).1 : Int)), .lit (.int .i64 (playX L n Y).2.1), .lit (.int .i64 ((playX L n Y).2.2 : Int))]) [some (.cells [.lit (.int .u64 (n : Int))]), some (.cells [.lit (.int .i64 (Y : Int))])] := by
  refine fn1_of pl33 (by kernel_rfl) Try.call33 Try.func33 rfl (by kernel_rfl) rfl [.tmp 4, .tmp 5, .tmp 6] (by kernel_rfl) fun Q hQ => ?_
  have hb := below_fn (L := L) (n := n) (p := 0) hL (by omega) hn (by omega)
  have he := belowX_end (L := L) (n := n) (p := 0) (by omega)
  unfold playX at hQ
  simp (maxSteps := 1000000) (disch := (first | omega | (simp only [List.length_append, List.length_set, List.length_cons, List.length_nil, List.length_replicate, List.length_take, List.length_drop, List.length_map, List.length_range, true_and, and_true]; (try omega); done) | fail)) only [go_sem, Int.reduceEq, Int.reduceToNat, Nat.reduceAdd, Nat.reduceMul, Nat.reduceEqDiff, ↓reduceIte]
  refine callW [] [] (newT_fn (L := L) hL) ?_
  rcases belowX_cases (L := L) (n := n) (p := 0) hn with e | ⟨x, q, hx, e⟩
  · rw [e] at hb hQ
    rw [if_pos rfl] at hQ
    simp (maxSteps := 1000000) (disch := (first | omega | (simp only [List.length_append, List.length_set, List.length_cons, List.length_nil, List.length_replicate, List.length_take, List.length_drop, List.length_map, List.length_range, true_and, and_true]; (try omega); done) | fail)) only [go_sem, Int.reduceEq, Int.reduceToNat, Nat.reduceAdd, Nat.reduceMul, Nat.reduceEqDiff, ↓reduceIte]
    refine callW [some 2] [] (hb) ?_
    simp (maxSteps := 1000000) (disch := (first | omega | (simp only [List.length_append, List.length_set, List.length_cons, List.length_nil, List.length_replicate, List.length_take, List.length_drop, List.length_map, List.length_range, true_and, and_true]; (try omega); done) | fail)) only [go_sem, Int.reduceEq, Int.reduceToNat, Nat.reduceAdd, Nat.reduceMul, Nat.reduceEqDiff, ↓reduceIte]
    refine callT (readT_fn (L := L) (p := L.length) (d := true)) ?_
    simp (maxSteps := 1000000) (disch := (first | omega | (simp only [List.length_append, List.length_set, List.length_cons, List.length_nil, List.length_replicate, List.length_take, List.length_drop, List.length_map, List.length_range, true_and, and_true]; (try omega); done) | fail)) only [go_sem, Int.reduceEq, Int.reduceToNat, Nat.reduceAdd, Nat.reduceMul, Nat.reduceEqDiff, ↓reduceIte]
    exact endW [some 0, some 1] hQ
  · rw [e] at hb hQ he
    rw [if_neg (by simp)] at hQ
    dsimp only at hb hQ he
    have hc := binom_fn (L := L) (p := q) (Y := Y) (y := (Y : Int)) hL he.2 (by omega) (by omega)
    simp (maxSteps := 1000000) (disch := (first | omega | (simp only [List.length_append, List.length_set, List.length_cons, List.length_nil, List.length_replicate, List.length_take, List.length_drop, List.length_map, List.length_range, true_and, and_true]; (try omega); done) | fail)) only [go_sem, Int.reduceEq, Int.reduceToNat, Nat.reduceAdd, Nat.reduceMul, Nat.reduceEqDiff, ↓reduceIte]
    refine callW [some 2] [] (hb) ?_
    simp (maxSteps := 1000000) (disch := (first | omega | (simp only [List.length_append, List.length_set, List.length_cons, List.length_nil, List.length_replicate, List.length_take, List.length_drop, List.length_map, List.length_range, true_and, and_true]; (try omega); done) | fail)) only [go_sem, Int.reduceEq, Int.reduceToNat, Nat.reduceAdd, Nat.reduceMul, Nat.reduceEqDiff, ↓reduceIte]
    refine callW [some 2] [] (hc) ?_
    by_cases hq : q + Y ≤ L.length
    · rw [binX_ok hq] at hQ ⊢
      rw [if_neg (by simp)] at hQ
      dsimp only at hQ ⊢
      have hcl := cT_le ((L.drop q).take Y)
      rw [List.length_take] at hcl
      generalize cT ((L.drop q).take Y) = c at *
      have ho := or_256 (x := x) (c := c) (by omega) (by omega)
      simp (maxSteps := 1000000) (disch := (first | omega | (simp only [List.length_append, List.length_set, List.length_cons, List.length_nil, List.length_replicate, List.length_take, List.length_drop, List.length_map, List.length_range, true_and, and_true]; (try omega); done) | fail)) only [go_sem, ho, Int.reduceEq, Int.reduceToNat, Nat.reduceAdd, Nat.reduceMul, Nat.reduceEqDiff, ↓reduceIte]
      refine callT (readT_fn (L := L) (p := q + Y) (d := false)) ?_
      simp (maxSteps := 1000000) (disch := (first | omega | (simp only [List.length_append, List.length_set, List.length_cons, List.length_nil, List.length_replicate, List.length_take, List.length_drop, List.length_map, List.length_range, true_and, and_true]; (try omega); done) | fail)) only [go_sem, Int.reduceEq, Int.reduceToNat, Nat.reduceAdd, Nat.reduceMul, Nat.reduceEqDiff, ↓reduceIte]
      exact endW [some 0, some 1] hQ
    · rw [binX_no hq] at hQ ⊢
      rw [if_pos rfl] at hQ
      dsimp only at hQ ⊢
      have ho := or_256 (x := x) (c := 0) (by omega) (by omega)
      simp (maxSteps := 1000000) (disch := (first | omega | (simp only [List.length_append, List.length_set, List.length_cons, List.length_nil, List.length_replicate, List.length_take, List.length_drop, List.length_map, List.length_range, true_and, and_true]; (try omega); done) | fail)) only [go_sem, ho, Int.reduceEq, Int.reduceToNat, Nat.reduceAdd, Nat.reduceMul, Nat.reduceEqDiff, ↓reduceIte]
      refine callT (readT_fn (L := L) (p := L.length) (d := true)) ?_
      simp (maxSteps := 1000000) (disch := (first | omega | (simp only [List.length_append, List.length_set, List.length_cons, List.length_nil, List.length_replicate, List.length_take, List.length_drop, List.length_map, List.length_range, true_and, and_true]; (try omega); done) | fail)) only [go_sem, Int.reduceEq, Int.reduceToNat, Nat.reduceAdd, Nat.reduceMul, Nat.reduceEqDiff, ↓reduceIte]
      exact endW [some 0, some 1] hQ
end Go.Proofs.Ytdpekigpjihnkaa
