import Derived.Test.YtnfmpphlkalbfaaGreatDoorKw
import Derived.Test.YtnfmpphlkalbfaaGreatDoorYh
/-! strings.Trim of digits. -/
namespace Go.Proofs.YtnfmpphlkalbfaaGreatDoor
open Go.Eng Go.Vx
set_option linter.unusedSimpArgs false
set_option linter.unusedVariables false
set_option maxRecDepth 100000
theorem asc_fn {S : List Bool} {c : Nat} (hS : S.length = 256) (hc : c < 256) : Fn1 Tryz.prog 135 [.ref 0 0 0 0, .lit (.int .u8 (c : Int))] [some (.cells (arrB S))] (.lit (.bool (S.getD c false))) [some (.cells (arrB S))] := by
  refine fn1N_of pl135 (by kernel_rfl) Tryz.call135 Tryz.func135 rfl (by kernel_rfl) rfl [.tmp 4] (by kernel_rfl) fun Q hQ => ?_
  simp (maxSteps := 1000000) (disch := (first | omega | (simp only [lnA, List.length_map, List.length_range, true_and, and_true]; (try omega); done) | fail)) only [go_sem, Int.reduceEq, Int.reduceToNat, Nat.reduceAdd, Nat.reduceMul, Nat.reduceEqDiff, ↓reduceIte]
  exact endW [some 0] hQ
/-- The set of some bytes. -/
def setB8 (l : List UInt8) : List Bool := l.foldl (fun S b => S.set b.toNat true) (fls 256)
theorem setB8_len (l : List UInt8) : (setB8 l).length = 256 := by
  unfold setB8
  have : ∀ (l : List UInt8) (S : List Bool), (l.foldl (fun S b => S.set b.toNat true) S).length = S.length := by
    intro l
    induction l with
    | nil => intro S; rfl
    | cons b l ih => intro S; rw [List.foldl_cons, ih, List.length_set]
  rw [this, fls_len]
theorem setB8_snoc (l : List UInt8) (b : UInt8) : setB8 (l ++ [b]) = (setB8 l).set b.toNat true := by
  unfold setB8
  rw [List.foldl_append]
  rfl
theorem u8_lt (b : UInt8) : b.toNat < 256 := b.toNat_lt
theorem mkset_fn {L : List UInt8} (hL : L.length ≤ 1000) (ha : ∀ b ∈ L, b.toNat < 128) : Fn1 Tryz.prog 116 [.lit (.string (bs L))] [] (.tup [.agg (arrB (setB8 L)), .lit (.bool true)]) [] := by
  refine fn1N_of pl116 (by kernel_rfl) Tryz.call116 Tryz.func116 rfl (by kernel_rfl) rfl [.cell 2 142, .tmp 3] (by kernel_rfl) fun Q hQ => ?_
  simp (maxSteps := 1000000) (disch := (first | omega | (simp only [lnA, List.length_map, List.length_range, true_and, and_true]; (try omega); done) | fail)) only [go_sem, Int.reduceEq, Int.reduceToNat, Nat.reduceAdd, Nat.reduceMul, Nat.reduceEqDiff, ↓reduceIte]
  refine LoopV_of (X := Nat) (st := fun i => ([(0, .lit (.string (bs L))), (2, .ref 0 0 0 0), (4, .lit (.int .i64 (i : Int)))], [some (.cells (arrB (setB8 (L.take i))))]))
    (inv := fun i => i ≤ L.length) (m := fun i => L.length - i) 0 [some 0] rfl (by rw [List.take_zero, show setB8 [] = fls 256 from rfl]; (simp (disch := (first | omega | (simp only [lnA, List.length_map, List.length_range, true_and, and_true]; (try omega); done) | fail)) only [go_sem, Int.reduceEq, Int.reduceToNat, Nat.reduceAdd, Nat.reduceMul, Nat.reduceEqDiff, ↓reduceIte, true_and, and_true, and_self, List.drop_zero, List.take_length, Nat.le_refl, V.lit.injEq, Value.int.injEq, Value.bool.injEq]; try (first | omega | (simp; done) | (simp; omega)))) (by simp (disch := (first | omega | (simp only [lnA, List.length_map, List.length_range, true_and, and_true]; (try omega); done) | fail)) only [go_sem, Int.reduceEq, Int.reduceToNat, Nat.reduceAdd, Nat.reduceMul, Nat.reduceEqDiff, ↓reduceIte, true_and, and_true, and_self, List.drop_zero, List.take_length, Nat.le_refl, V.lit.injEq, Value.int.injEq, Value.bool.injEq]; try (first | omega | (simp; done) | (simp; omega))) (by omega) ?_
  intro i hi
  have hl := setB8_len (L.take i)
  by_cases h : i < L.length
  · have hb : (L.getD i 0).toNat < 128 := by
      have : L.getD i 0 = L[i] := by simp [List.getD_eq_getElem?_getD, h]
      rw [this]
      exact ha _ (List.getElem_mem h)
    have ht : L.take (i + 1) = L.take i ++ [L.getD i 0] := by
      rw [List.take_succ_eq_append_getElem h]
      simp [List.getD_eq_getElem?_getD, h]
    have hsn := setB8_snoc (L.take i) (L.getD i 0)
    rw [← ht] at hsn
    simp (maxSteps := 1000000) (disch := (first | omega | (simp only [lnA, List.length_map, List.length_range, true_and, and_true]; (try omega); done) | fail)) only [go_sem, Int.reduceEq, Int.reduceToNat, Nat.reduceAdd, Nat.reduceMul, Nat.reduceEqDiff, ↓reduceIte]
    refine NextV_of (i + 1) [some 0] rfl (by rw [hsn]; (simp (disch := (first | omega | (simp only [lnA, List.length_map, List.length_range, true_and, and_true]; (try omega); done) | fail)) only [go_sem, Int.reduceEq, Int.reduceToNat, Nat.reduceAdd, Nat.reduceMul, Nat.reduceEqDiff, ↓reduceIte, true_and, and_true, and_self, List.drop_zero, List.take_length, Nat.le_refl, V.lit.injEq, Value.int.injEq, Value.bool.injEq]; try (first | omega | (simp; done) | (simp; omega)))) (by simp (disch := (first | omega | (simp only [lnA, List.length_map, List.length_range, true_and, and_true]; (try omega); done) | fail)) only [go_sem, Int.reduceEq, Int.reduceToNat, Nat.reduceAdd, Nat.reduceMul, Nat.reduceEqDiff, ↓reduceIte, true_and, and_true, and_self, List.drop_zero, List.take_length, Nat.le_refl, V.lit.injEq, Value.int.injEq, Value.bool.injEq]; try (first | omega | (simp; done) | (simp; omega))) (by omega) (by omega)
  · have e : L.take i = L := List.take_of_length_le (by omega)
    rw [e] at hl
    rw [e]
    simp (maxSteps := 1000000) (disch := (first | omega | (simp only [lnA, List.length_map, List.length_range, true_and, and_true]; (try omega); done) | fail)) only [go_sem, Int.reduceEq, Int.reduceToNat, Nat.reduceAdd, Nat.reduceMul, Nat.reduceEqDiff, ↓reduceIte]
    exact endW [] hQ
/-- Without the set's bytes at the ends. -/
def inS (S : List Bool) (b : UInt8) : Bool := S.getD b.toNat false
theorem trimL_fn {S : List Bool} {s : List UInt8} (hS : S.length = 256) (hs : s.length ≤ 9223372036854775807) : Fn1 Tryz.prog 117 [.lit (.string (bs s)), .ref 0 0 0 0] [some (.cells (arrB S))] (.lit (.string (bs (s.dropWhile (inS S))))) [some (.cells (arrB S))] := by
  refine fn1N_of pl117 (by kernel_rfl) Tryz.call117 Tryz.func117 rfl (by kernel_rfl) rfl [.tmp 4] (by kernel_rfl) fun Q hQ => ?_
  simp (maxSteps := 1000000) (disch := (first | omega | (simp only [lnA, List.length_map, List.length_range, true_and, and_true]; (try omega); done) | fail)) only [go_sem, Int.reduceEq, Int.reduceToNat, Nat.reduceAdd, Nat.reduceMul, Nat.reduceEqDiff, ↓reduceIte]
  refine LoopV_of (X := List UInt8) (st := fun r => ([(0, .lit (.string (bs r))), (1, .ref 0 0 0 0)], [some (.cells (arrB S))]))
    (inv := fun r => r.length ≤ s.length ∧ r.dropWhile (inS S) = s.dropWhile (inS S)) (m := fun r => r.length) s [some 0] rfl (by simp (disch := (first | omega | (simp only [lnA, List.length_map, List.length_range, true_and, and_true]; (try omega); done) | fail)) only [go_sem, Int.reduceEq, Int.reduceToNat, Nat.reduceAdd, Nat.reduceMul, Nat.reduceEqDiff, ↓reduceIte, true_and, and_true, and_self, List.drop_zero, List.take_length, Nat.le_refl, V.lit.injEq, Value.int.injEq, Value.bool.injEq]; try (first | omega | (simp; done) | (simp; omega))) (by simp (disch := (first | omega | (simp only [lnA, List.length_map, List.length_range, true_and, and_true]; (try omega); done) | fail)) only [go_sem, Int.reduceEq, Int.reduceToNat, Nat.reduceAdd, Nat.reduceMul, Nat.reduceEqDiff, ↓reduceIte, true_and, and_true, and_self, List.drop_zero, List.take_length, Nat.le_refl, V.lit.injEq, Value.int.injEq, Value.bool.injEq]; try (first | omega | (simp; done) | (simp; omega))) ⟨Nat.le_refl _, rfl⟩ ?_
  rintro r ⟨hr, he⟩
  cases r with
  | nil =>
    rw [← he] at hQ
    simp (maxSteps := 1000000) (disch := (first | omega | (simp only [lnA, List.length_map, List.length_range, true_and, and_true]; (try omega); done) | fail)) only [go_sem, Int.reduceEq, Int.reduceToNat, Nat.reduceAdd, Nat.reduceMul, Nat.reduceEqDiff, ↓reduceIte]
    exact endW [some 0] hQ
  | cons b r =>
    have hg : ((b :: r).getD 0 0).toNat = b.toNat := rfl
    have hlr : (b :: r).length = r.length + 1 := rfl
    have hdr : ((b :: r).take (r.length + 1)).drop 1 = r := by rw [List.take_of_length_le (by simp)]; rfl
    have ha := asc_fn (S := S) (c := b.toNat) hS (u8_lt b)
    cases hin : S.getD b.toNat false with
    | true =>
      rw [hin] at ha
      have hd : (b :: r).dropWhile (inS S) = r.dropWhile (inS S) := by rw [List.dropWhile_cons, if_pos (show inS S b = true from hin)]
      simp (maxSteps := 1000000) (disch := (first | omega | (simp only [lnA, List.length_map, List.length_range, true_and, and_true]; (try omega); done) | fail)) only [go_sem, hg, Int.reduceEq, Int.reduceToNat, Nat.reduceAdd, Nat.reduceMul, Nat.reduceEqDiff, ↓reduceIte]
      refine callW [some 0] [] (ha) ?_
      simp (maxSteps := 1000000) (disch := (first | omega | (simp only [lnA, List.length_map, List.length_range, true_and, and_true]; (try omega); done) | fail)) only [go_sem, hg, hdr, Int.reduceEq, Int.reduceToNat, Nat.reduceAdd, Nat.reduceMul, Nat.reduceEqDiff, ↓reduceIte]
      refine nextW r [some 0] ⟨by omega, by rw [← hd]; exact he⟩ (by omega)
    | false =>
      rw [hin] at ha
      have hd : (b :: r).dropWhile (inS S) = b :: r := by rw [List.dropWhile_cons, if_neg (by show ¬ inS S b = true; unfold inS; rw [hin]; decide)]
      rw [← he, hd] at hQ
      simp (maxSteps := 1000000) (disch := (first | omega | (simp only [lnA, List.length_map, List.length_range, true_and, and_true]; (try omega); done) | fail)) only [go_sem, hg, Int.reduceEq, Int.reduceToNat, Nat.reduceAdd, Nat.reduceMul, Nat.reduceEqDiff, ↓reduceIte]
      refine callW [some 0] [] (ha) ?_
      simp (maxSteps := 1000000) (disch := (first | omega | (simp only [lnA, List.length_map, List.length_range, true_and, and_true]; (try omega); done) | fail)) only [go_sem, hg, Int.reduceEq, Int.reduceToNat, Nat.reduceAdd, Nat.reduceMul, Nat.reduceEqDiff, ↓reduceIte]
      exact endW [some 0] hQ
theorem trimR_fn {S : List Bool} {s : List UInt8} (hS : S.length = 256) (hs : s.length ≤ 9223372036854775807) : Fn1 Tryz.prog 118 [.lit (.string (bs s)), .ref 0 0 0 0] [some (.cells (arrB S))] (.lit (.string (bs (s.reverse.dropWhile (inS S)).reverse))) [some (.cells (arrB S))] := by
  refine fn1N_of pl118 (by kernel_rfl) Tryz.call118 Tryz.func118 rfl (by kernel_rfl) rfl [.tmp 4] (by kernel_rfl) fun Q hQ => ?_
  simp (maxSteps := 1000000) (disch := (first | omega | (simp only [lnA, List.length_map, List.length_range, true_and, and_true]; (try omega); done) | fail)) only [go_sem, Int.reduceEq, Int.reduceToNat, Nat.reduceAdd, Nat.reduceMul, Nat.reduceEqDiff, ↓reduceIte]
  refine LoopV_of (X := List UInt8) (st := fun r => ([(0, .lit (.string (bs r.reverse))), (1, .ref 0 0 0 0)], [some (.cells (arrB S))]))
    (inv := fun r => r.length ≤ s.length ∧ r.dropWhile (inS S) = s.reverse.dropWhile (inS S)) (m := fun r => r.length) s.reverse [some 0] rfl (by simp (disch := (first | omega | (simp only [lnA, List.length_map, List.length_range, true_and, and_true]; (try omega); done) | fail)) only [go_sem, Int.reduceEq, Int.reduceToNat, Nat.reduceAdd, Nat.reduceMul, Nat.reduceEqDiff, ↓reduceIte, true_and, and_true, and_self, List.drop_zero, List.take_length, Nat.le_refl, V.lit.injEq, Value.int.injEq, Value.bool.injEq]; try (first | omega | (simp; done) | (simp; omega))) (by rw [List.reverse_reverse]; (simp (disch := (first | omega | (simp only [lnA, List.length_map, List.length_range, true_and, and_true]; (try omega); done) | fail)) only [go_sem, Int.reduceEq, Int.reduceToNat, Nat.reduceAdd, Nat.reduceMul, Nat.reduceEqDiff, ↓reduceIte, true_and, and_true, and_self, List.drop_zero, List.take_length, Nat.le_refl, V.lit.injEq, Value.int.injEq, Value.bool.injEq]; try (first | omega | (simp; done) | (simp; omega)))) ⟨by simp, rfl⟩ ?_
  rintro r ⟨hr, he⟩
  cases r with
  | nil =>
    rw [← he] at hQ
    simp (maxSteps := 1000000) (disch := (first | omega | (simp only [lnA, List.length_map, List.length_range, true_and, and_true]; (try omega); done) | fail)) only [go_sem, List.reverse_nil, Int.reduceEq, Int.reduceToNat, Nat.reduceAdd, Nat.reduceMul, Nat.reduceEqDiff, ↓reduceIte]
    exact endW [some 0] hQ
  | cons b r =>
    have hlr : (b :: r).reverse.length = r.length + 1 := by simp
    have hlc : (b :: r).length = r.length + 1 := rfl
    have hg : (((b :: r).reverse.getD r.length 0).toNat : Int) = (b.toNat : Int) := by
      simp [List.getD_eq_getElem?_getD]
    have hk : (((r.length + 1 : Nat) : Int) - 1).toNat = r.length := by omega
    have htk : (b :: r).reverse.take r.length = r.reverse := by
      rw [List.reverse_cons, List.take_left' (by simp)]
    have ha := asc_fn (S := S) (c := b.toNat) hS (u8_lt b)
    cases hin : S.getD b.toNat false with
    | true =>
      rw [hin] at ha
      have hd : (b :: r).dropWhile (inS S) = r.dropWhile (inS S) := by rw [List.dropWhile_cons, if_pos (show inS S b = true from hin)]
      simp (maxSteps := 1000000) (disch := (first | omega | (simp only [lnA, List.length_map, List.length_range, true_and, and_true]; (try omega); done) | fail)) only [go_sem, hlr, hk, hg, Int.reduceEq, Int.reduceToNat, Nat.reduceAdd, Nat.reduceMul, Nat.reduceEqDiff, ↓reduceIte]
      refine callW [some 0] [] (ha) ?_
      simp (maxSteps := 1000000) (disch := (first | omega | (simp only [lnA, List.length_map, List.length_range, true_and, and_true]; (try omega); done) | fail)) only [go_sem, hlr, hk, hg, htk, Int.reduceEq, Int.reduceToNat, Nat.reduceAdd, Nat.reduceMul, Nat.reduceEqDiff, ↓reduceIte]
      refine nextW r [some 0] ⟨by omega, by rw [← hd]; exact he⟩ (by omega)
    | false =>
      rw [hin] at ha
      have hd : (b :: r).dropWhile (inS S) = b :: r := by rw [List.dropWhile_cons, if_neg (by show ¬ inS S b = true; unfold inS; rw [hin]; decide)]
      rw [← he, hd] at hQ
      simp (maxSteps := 1000000) (disch := (first | omega | (simp only [lnA, List.length_map, List.length_range, true_and, and_true]; (try omega); done) | fail)) only [go_sem, hlr, hk, hg, Int.reduceEq, Int.reduceToNat, Nat.reduceAdd, Nat.reduceMul, Nat.reduceEqDiff, ↓reduceIte]
      refine callW [some 0] [] (ha) ?_
      simp (maxSteps := 1000000) (disch := (first | omega | (simp only [lnA, List.length_map, List.length_range, true_and, and_true]; (try omega); done) | fail)) only [go_sem, hlr, hk, hg, Int.reduceEq, Int.reduceToNat, Nat.reduceAdd, Nat.reduceMul, Nat.reduceEqDiff, ↓reduceIte]
      exact endW [some 0] hQ
/-- A digit's byte. -/
def isD (b : UInt8) : Bool := decide (48 ≤ b.toNat ∧ b.toNat ≤ 57)
def digs : List UInt8 := [48, 49, 50, 51, 52, 53, 54, 55, 56, 57]
theorem inS_digs (b : UInt8) : inS (setB8 digs) b = isD b := by
  have h : ∀ c : Fin 256, (setB8 digs).getD c.val false = decide (48 ≤ c.val ∧ c.val ≤ 57) := by decide +kernel
  exact h ⟨b.toNat, b.toNat_lt⟩
theorem dw_nil {p : UInt8 → Bool} : ∀ {l : List UInt8}, l.dropWhile p = [] ↔ ∀ b ∈ l, p b = true
  | [] => by simp
  | a :: l => by
    rw [List.dropWhile_cons]
    by_cases h : p a = true
    · rw [if_pos h, dw_nil (l := l)]
      simp [h]
    · rw [if_neg h]
      simp [h]
theorem trim_nil {s : List UInt8} : (((s.reverse.dropWhile isD).reverse).dropWhile isD = []) ↔ s.all isD = true := by
  constructor
  · intro h
    refine Classical.byContradiction fun hn => ?_
    obtain ⟨b, hb, hbd⟩ : ∃ b ∈ s, isD b = false := by
      refine Classical.byContradiction fun hc => hn (List.all_eq_true.2 fun b hb => ?_)
      cases e : isD b with
      | true => rfl
      | false => exact absurd ⟨b, hb, e⟩ hc
    have h1 : ∀ b ∈ (s.reverse.dropWhile isD).reverse, isD b = true := dw_nil.1 h
    have h2 : s.reverse.dropWhile isD = [] := by
      cases hd : s.reverse.dropWhile isD with
      | nil => rfl
      | cons c l =>
        have hc : isD c = false := by
          have := List.head_dropWhile_not isD (l := s.reverse) (by rw [hd]; simp)
          simp only [hd, List.head_cons] at this
          simpa using this
        have := h1 c (by rw [hd]; simp)
        rw [hc] at this
        cases this
    have h3 := dw_nil.1 h2 b (by simpa using hb)
    rw [hbd] at h3
    cases h3
  · intro h
    have : s.reverse.dropWhile isD = [] := dw_nil.2 fun b hb => List.all_eq_true.1 h b (by simpa using hb)
    rw [this]
    rfl
theorem trimD_fn {s : List UInt8} (hs : s.length ≤ 9223372036854775807) : Fn1 Tryz.prog 96 [.lit (.string (bs s)), .lit (.string (bs digs))] [] (.lit (.string (bs (((s.reverse.dropWhile isD).reverse).dropWhile isD)))) [] := by
  have hp : inS (setB8 digs) = isD := funext inS_digs
  have hm := mkset_fn (L := digs) (by decide) (by decide)
  have hl := setB8_len digs
  generalize setB8 digs = S at *
  have hr := trimR_fn (S := S) (s := s) hl hs
  have hrl : ((s.reverse.dropWhile isD).reverse).length ≤ s.length := by
    rw [List.length_reverse]
    exact Nat.le_trans (List.dropWhile_sublist _).length_le (by simp)
  rw [hp] at hr
  have ht := trimL_fn (S := S) (s := (s.reverse.dropWhile isD).reverse) hl (by omega)
  rw [hp] at ht
  have hdl : (digs.length : Int) = 10 := rfl
  by_cases h0 : s = []
  · subst h0
    refine fn1N_of pl96 (by kernel_rfl) Tryz.call96 Tryz.func96 rfl (by kernel_rfl) rfl [.tmp 4] (by kernel_rfl) fun Q hQ => ?_
    simp (maxSteps := 1000000) (disch := (first | omega | (simp only [lnA, List.length_map, List.length_range, true_and, and_true]; (try omega); done) | fail)) only [go_sem, Int.reduceEq, Int.reduceToNat, Nat.reduceAdd, Nat.reduceMul, Nat.reduceEqDiff, ↓reduceIte]
    exact endW [] hQ
  · have hse : s.length ≠ 0 := fun e => h0 (List.length_eq_zero_iff.1 e)
    have hD0 : decide (digs = []) = false := by decide
    have hDl : digs.length = 10 := rfl
    have hfl := fls_len 256
    generalize digs = D at *
    refine fn1N_of pl96 (by kernel_rfl) Tryz.call96 Tryz.func96 rfl (by kernel_rfl) rfl [.tmp 4] (by kernel_rfl) fun Q hQ => ?_
    simp (maxSteps := 1000000) (disch := (first | omega | (simp only [lnA, List.length_map, List.length_range, true_and, and_true]; (try omega); done) | fail)) only [go_sem, hD0, hDl, Int.reduceEq, Int.reduceToNat, Nat.reduceAdd, Nat.reduceMul, Nat.reduceEqDiff, ↓reduceIte]
    refine callW [] [] (hm) ?_
    simp (maxSteps := 1000000) (disch := (first | omega | (simp only [lnA, List.length_map, List.length_range, true_and, and_true]; (try omega); done) | fail)) only [go_sem, Int.reduceEq, Int.reduceToNat, Nat.reduceAdd, Nat.reduceMul, Nat.reduceEqDiff, ↓reduceIte]
    refine callW [some 0] [] (hr) ?_
    simp (maxSteps := 1000000) (disch := (first | omega | (simp only [lnA, List.length_map, List.length_range, true_and, and_true]; (try omega); done) | fail)) only [go_sem, Int.reduceEq, Int.reduceToNat, Nat.reduceAdd, Nat.reduceMul, Nat.reduceEqDiff, ↓reduceIte]
    refine callW [some 0] [] (ht) ?_
    simp (maxSteps := 1000000) (disch := (first | omega | (simp only [lnA, List.length_map, List.length_range, true_and, and_true]; (try omega); done) | fail)) only [go_sem, Int.reduceEq, Int.reduceToNat, Nat.reduceAdd, Nat.reduceMul, Nat.reduceEqDiff, ↓reduceIte]
    exact endW [] hQ
end Go.Proofs.YtnfmpphlkalbfaaGreatDoor
