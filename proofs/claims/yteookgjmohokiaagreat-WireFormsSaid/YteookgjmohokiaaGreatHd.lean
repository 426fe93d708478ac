import Derived.Test.YteookgjmohokiaaGreatHc
import Derived.Test.YteookgjmohokiaaGreatOk
/-! Package carray. -/
namespace Go.Proofs.YteookgjmohokiaaGreat
open Go.Eng Go.Vx
set_option linter.unusedSimpArgs false
set_option linter.unusedVariables false
set_option maxRecDepth 100000
/-- An array's cells, its vector under the number v; and one that is only looked at. -/
def caC (v k a b : Nat) : Ob := .cells [.ref v 0 0 0, .lit (.int .i64 (k : Int)), .lit (.int .i64 (a : Int)), .lit (.int .i64 (b : Int))]
def caP (k a b n w X : Nat) : V := .rref 4 [[.ptr 3 [[.row 1 ((words (nwd n w) X).map (ie .u64)), .lit (.int .i64 (n : Int)), .lit (.int .i64 (w : Int))]] 0 0, .lit (.int .i64 (k : Int)), .lit (.int .i64 (a : Int)), .lit (.int .i64 (b : Int))]] 0 0
attribute [go_sem] caC caP
def wd (k a b : Nat) : Nat := w1 k a b + w2 k a b + 1
theorem wd_ok {k a b : Nat} (h : goodN k a b) : 1 ≤ wd k a b ∧ wd k a b ≤ 16 := by
  have := w_le h
  unfold wd
  omega
theorem cParam_fn {k a b n w X : Nat} : Fn1 Tryz.prog 47 [caP k a b n w X] [] (pR k a b) [] := by
  refine fn1N_of pl47 (by kernel_rfl) Tryz.call47 Tryz.func47 rfl (by kernel_rfl) rfl [.cell 2 43] (by kernel_rfl) fun Q hQ => ?_
  simp (maxSteps := 1000000) (disch := (first | omega | (simp only [lnA, List.length_map, List.length_range, true_and, and_true]; (try omega); done) | fail)) only [go_sem, Int.reduceEq, Int.reduceToNat, Nat.reduceAdd, Nat.reduceMul, Nat.reduceEqDiff, ↓reduceIte]
  exact endW [] hQ
theorem cNew_fn {k a b n : Nat} (h : goodN k a b) (hn : 1 ≤ n ∧ n ≤ 256) : Fn1 Tryz.prog 33 [pR k a b, .lit (.int .i64 (n : Int))] [] (.tup [.ref 0 0 0 0, .lit (.int .i64 0)]) [some (caC 1 k a b), some (vcC 2 n (wd k a b)), some (vcR n (wd k a b) 0)] := by
  have rc := rCheck_fn h
  have rb := rBits_fn h
  have hw := wd_ok h
  have nw := new_fn (n := n) (w := wd k a b) hn.2 ⟨hw.1, by omega⟩
  change Fn1 _ _ _ _ (.lit (.int .i64 ((wd k a b : Nat) : Int))) _ at rb
  refine fn1N_of pl33 (by kernel_rfl) Tryz.call33 Tryz.func33 rfl (by kernel_rfl) rfl [.tmp 4, .tmp 5] (by kernel_rfl) fun Q hQ => ?_
  generalize wd k a b = w at *
  simp (maxSteps := 1000000) (disch := (first | omega | (simp only [lnA, List.length_map, List.length_range, true_and, and_true]; (try omega); done) | fail)) only [go_sem, Int.reduceEq, Int.reduceToNat, Nat.reduceAdd, Nat.reduceMul, Nat.reduceEqDiff, ↓reduceIte]
  refine callV0 (rc) rfl rfl ?_
  simp (maxSteps := 1000000) (disch := (first | omega | (simp only [lnA, List.length_map, List.length_range, true_and, and_true]; (try omega); done) | fail)) only [go_sem, Int.reduceEq, Int.reduceToNat, Nat.reduceAdd, Nat.reduceMul, Nat.reduceEqDiff, ↓reduceIte]
  refine callV0 (rb) rfl rfl ?_
  simp (maxSteps := 1000000) (disch := (first | omega | (simp only [lnA, List.length_map, List.length_range, true_and, and_true]; (try omega); done) | fail)) only [go_sem, Int.reduceEq, Int.reduceToNat, Nat.reduceAdd, Nat.reduceMul, Nat.reduceEqDiff, ↓reduceIte]
  refine callW [] [] (nw) ?_
  simp (maxSteps := 1000000) (disch := (first | omega | (simp only [lnA, List.length_map, List.length_range, true_and, and_true]; (try omega); done) | fail)) only [go_sem, Int.reduceEq, Int.reduceToNat, Nat.reduceAdd, Nat.reduceMul, Nat.reduceEqDiff, ↓reduceIte]
  exact endW [some 3, some 1, some 2] hQ
theorem numOf_rgB {k a b : Nat} {s : Nat × Nat × Bool} : numOf (((bitsOf (pk (rgB k a b s))).drop 0).take (wd k a b)) = numOf (rgB k a b s) := by
  show numOf (((bitsOf (pk (rgB k a b s))).drop 0).take (w1 k a b + w2 k a b + 1)) = _
  rw [bitsOf_pk, List.drop_zero, List.take_left' (rgB_len k a b s)]
set_option maxHeartbeats 4000000 in
theorem cSet_fn {k a b n i : Nat} {N : List Nat} {s : Nat × Nat × Bool} (h : goodN k a b) (w : wellN k a b s) (hn : n ≤ 256) (hi : i < n) (hN : N.length = n) (hl : ∀ x ∈ N, x < 2 ^ wd k a b) :
    Fn1 Tryz.prog 34 [.ref 0 0 0 0, .lit (.int .i64 (i : Int)), sR s] [some (caC 1 k a b), some (vcC 2 n (wd k a b)), some (vcR n (wd k a b) (packN (wd k a b) N))] (.lit (.int .i64 0))
      [some (caC 1 k a b), some (vcC 2 n (wd k a b)), some (vcR n (wd k a b) (packN (wd k a b) (N.set i (numOf (rgB k a b s)))))] := by
  have hw := wd_ok h
  have hwl : (rgB k a b s).length = wd k a b := rgB_len k a b s
  have hlw := words_len (nwd n (wd k a b)) (packN (wd k a b) N)
  have g := getN_fn (n := n) (w := wd k a b) (i := i) (N := N) hn ⟨hw.1, by omega⟩ hi hl
  have wr := rWrite_fn (L := []) h w (by decide)
  rw [List.nil_append] at wr
  have bf := bytesF_fn (L := rgB k a b s) (by omega)
  have hpl := pk_len (rgB k a b s)
  have rd := read_fn (B := pk (rgB k a b s)) (by omega)
  have hI : IsB (pk (rgB k a b s)) := by
    intro x hx
    unfold pk pkTo at hx
    obtain ⟨j, _, rfl⟩ := List.mem_map.1 hx
    have := byteV_lt (rgB k a b s) j
    omega
  have nm := brnum_fn (B := pk (rgB k a b s)) (p := 0) (w := wd k a b) hI (by omega) (by omega) (by omega)
  rw [numOf_rgB] at nm
  have wdt := width_fn (n := n) (w := wd k a b) (L := words (nwd n (wd k a b)) (packN (wd k a b) N))
  have hx : numOf (rgB k a b s) < 2 ^ wd k a b := by rw [← hwl]; exact numOf_lt _
  have st := setN_fn (n := n) (w := wd k a b) (i := i) (x := numOf (rgB k a b s)) (N := N) hn ⟨hw.1, by omega⟩ hi hx hN hl
  refine fn1N_of pl34 (by kernel_rfl) Tryz.call34 Tryz.func34 rfl (by kernel_rfl) rfl [.tmp 6] (by kernel_rfl) fun Q hQ => ?_
  simp (maxSteps := 1000000) (disch := (first | omega | (simp only [lnA, List.length_map, List.length_range, true_and, and_true]; (try omega); done) | fail)) only [go_sem, Int.reduceEq, Int.reduceToNat, Nat.reduceAdd, Nat.reduceMul, Nat.reduceEqDiff, ↓reduceIte]
  refine callT (g) ?_
  simp (maxSteps := 1000000) (disch := (first | omega | (simp only [lnA, List.length_map, List.length_range, true_and, and_true]; (try omega); done) | fail)) only [go_sem, Int.reduceEq, Int.reduceToNat, Nat.reduceAdd, Nat.reduceMul, Nat.reduceEqDiff, ↓reduceIte]
  refine callW [some 4, none] [] (wr) ?_
  simp (maxSteps := 1000000) (disch := (first | omega | (simp only [lnA, List.length_map, List.length_range, true_and, and_true]; (try omega); done) | fail)) only [go_sem, Int.reduceEq, Int.reduceToNat, Nat.reduceAdd, Nat.reduceMul, Nat.reduceEqDiff, ↓reduceIte]
  refine callF (bf) ?_
  simp (maxSteps := 1000000) (disch := (first | omega | (simp only [lnA, List.length_map, List.length_range, true_and, and_true]; (try omega); done) | fail)) only [go_sem, Int.reduceEq, Int.reduceToNat, Nat.reduceAdd, Nat.reduceMul, Nat.reduceEqDiff, ↓reduceIte]
  refine callW [] [7] (rd) ?_
  simp (maxSteps := 1000000) (disch := (first | omega | (simp only [lnA, List.length_map, List.length_range, true_and, and_true]; (try omega); done) | fail)) only [go_sem, Int.reduceEq, Int.reduceToNat, Nat.reduceAdd, Nat.reduceMul, Nat.reduceEqDiff, ↓reduceIte]
  refine callT (wdt) ?_
  simp (maxSteps := 1000000) (disch := (first | omega | (simp only [lnA, List.length_map, List.length_range, true_and, and_true]; (try omega); done) | fail)) only [go_sem, Int.reduceEq, Int.reduceToNat, Nat.reduceAdd, Nat.reduceMul, Nat.reduceEqDiff, ↓reduceIte]
  refine callW [some 8] [] (nm) ?_
  simp (maxSteps := 1000000) (disch := (first | omega | (simp only [lnA, List.length_map, List.length_range, true_and, and_true]; (try omega); done) | fail)) only [go_sem, Int.reduceEq, Int.reduceToNat, Nat.reduceAdd, Nat.reduceMul, Nat.reduceEqDiff, ↓reduceIte]
  refine callW [some 1, some 2] [] (st) ?_
  simp (maxSteps := 1000000) (disch := (first | omega | (simp only [lnA, List.length_map, List.length_range, true_and, and_true]; (try omega); done) | fail)) only [go_sem, Int.reduceEq, Int.reduceToNat, Nat.reduceAdd, Nat.reduceMul, Nat.reduceEqDiff, ↓reduceIte]
  exact endW [some 0, some 1, some 2] hQ
end Go.Proofs.YteookgjmohokiaaGreat
