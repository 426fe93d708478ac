import Derived.Test.YteookgjmohokiaaGreatD1
import Derived.Test.YteookgjmohokiaaGreatHc
import Derived.Test.YteookgjmohokiaaGreatNp
import Derived.Test.YteookgjmohokiaaGreatAa
import Derived.Test.YteookgjmohokiaaGreatSa
import Derived.Test.YteookgjmohokiaaGreatLb
import Derived.Test.YteookgjmohokiaaGreatD2
import Derived.Test.YteookgjmohokiaaGreatSh
namespace Go.Proofs.YteookgjmohokiaaGreat
open Go.Eng Go.Vx
set_option linter.unusedSimpArgs false
set_option linter.unusedVariables false
set_option maxRecDepth 100000
def wrP (L : List Bool) : V := .rref 2 [[.row 1 ((pk L).map (ie .u8)), .lit (.int .i64 (L.length : Int))]] 0 0
attribute [go_sem] wrP
theorem bytesF_fn {L : List Bool} (hm : L.length < 1099511627776) : Fn1 Tryz.prog 32 [wrP L] [] (.sl 0 1 0 (pk L).length) [some (wrR L)] := by
  refine fn1N_of pl32 (by kernel_rfl) Tryz.call32 Tryz.func32 rfl (by kernel_rfl) rfl [.tmp 2] (by kernel_rfl) fun Q hQ => ?_
  have hpl := pk_len L
  simp (maxSteps := 1000000) (disch := (first | omega | (simp only [lnA, List.length_map, List.length_range, true_and, and_true]; (try omega); done) | fail)) only [go_sem, Int.reduceEq, Int.reduceToNat, Nat.reduceAdd, Nat.reduceMul, Nat.reduceEqDiff, ↓reduceIte]
  exact endW [some 0] hQ
end Go.Proofs.YteookgjmohokiaaGreat

namespace Go.Proofs.YteookgjmohokiaaGreat
open Go.Eng Go.Vx
set_option linter.unusedSimpArgs false
set_option linter.unusedVariables false
set_option maxRecDepth 100000
def caC (v k a b : Nat) : Ob := .cells [.ref v 0 0 0, .lit (.int .i64 (k : Int)), .lit (.int .i64 (a : Int)), .lit (.int .i64 (b : Int))]
def caP (k a b n w X : Nat) : V := .rref 4 [[.ptr 3 [[.row 1 ((words (nwd n w) X).map (ie .u64)), .lit (.int .i64 (n : Int)), .lit (.int .i64 (w : Int))]] 0 0, .lit (.int .i64 (k : Int)), .lit (.int .i64 (a : Int)), .lit (.int .i64 (b : Int))]] 0 0
attribute [go_sem] caC caP
def wd (k a b : Nat) : Nat := w1 k a b + w2 k a b + 1
theorem wd_ok {k a b : Nat} (h : goodN k a b) : 1 ≤ wd k a b ∧ wd k a b ≤ 16 := by
  have := w_le h
  unfold wd
  omega
theorem cParam_fn {k a b n w X : Nat} : Fn1 Tryz.prog 47 [caP k a b n w X] [] (pR k a b) [] := by
  refine fn1N_of pl47 (by kernel_rfl) Tryz.call47 Tryz.func47 rfl (by kernel_rfl) rfl [.cell 2 43] (by kernel_rfl) fun Q hQ => ?_
  simp (maxSteps := 1000000) (disch := (first | omega | (simp only [lnA, List.length_map, List.length_range, true_and, and_true]; (try omega); done) | fail)) only [go_sem, Int.reduceEq, Int.reduceToNat, Nat.reduceAdd, Nat.reduceMul, Nat.reduceEqDiff, ↓reduceIte]
  exact endW [] hQ
theorem cNew_fn {k a b n : Nat} (h : goodN k a b) (hn : 1 ≤ n ∧ n ≤ 256) : Fn1 Tryz.prog 33 [pR k a b, .lit (.int .i64 (n : Int))] [] (.tup [.ref 0 0 0 0, .lit (.int .i64 0)]) [some (caC 1 k a b), some (vcC 2 n (wd k a b)), some (vcR n (wd k a b) 0)] := by
  have rc := rCheck_fn h
  have rb := rBits_fn h
  have hw := wd_ok h
  have nw := new_fn (n := n) (w := wd k a b) hn.2 ⟨hw.1, by omega⟩
  change Fn1 _ _ _ _ (.lit (.int .i64 ((wd k a b : Nat) : Int))) _ at rb
  refine fn1N_of pl33 (by kernel_rfl) Tryz.call33 Tryz.func33 rfl (by kernel_rfl) rfl [.tmp 4, .tmp 5] (by kernel_rfl) fun Q hQ => ?_
  generalize wd k a b = w at *
  simp (maxSteps := 1000000) (disch := (first | omega | (simp only [lnA, List.length_map, List.length_range, true_and, and_true]; (try omega); done) | fail)) only [go_sem, Int.reduceEq, Int.reduceToNat, Nat.reduceAdd, Nat.reduceMul, Nat.reduceEqDiff, ↓reduceIte]
  refine callV0 (rc) rfl rfl ?_
  simp (maxSteps := 1000000) (disch := (first | omega | (simp only [lnA, List.length_map, List.length_range, true_and, and_true]; (try omega); done) | fail)) only [go_sem, Int.reduceEq, Int.reduceToNat, Nat.reduceAdd, Nat.reduceMul, Nat.reduceEqDiff, ↓reduceIte]
  refine callV0 (rb) rfl rfl ?_
  simp (maxSteps := 1000000) (disch := (first | omega | (simp only [lnA, List.length_map, List.length_range, true_and, and_true]; (try omega); done) | fail)) only [go_sem, Int.reduceEq, Int.reduceToNat, Nat.reduceAdd, Nat.reduceMul, Nat.reduceEqDiff, ↓reduceIte]
  refine callW [] [] (nw) ?_
  simp (maxSteps := 1000000) (disch := (first | omega | (simp only [lnA, List.length_map, List.length_range, true_and, and_true]; (try omega); done) | fail)) only [go_sem, Int.reduceEq, Int.reduceToNat, Nat.reduceAdd, Nat.reduceMul, Nat.reduceEqDiff, ↓reduceIte]
  exact endW [some 3, some 1, some 2] hQ
theorem numOf_rgB {k a b : Nat} {s : Nat × Nat × Bool} : numOf (((bitsOf (pk (rgB k a b s))).drop 0).take (wd k a b)) = numOf (rgB k a b s) := by
  show numOf (((bitsOf (pk (rgB k a b s))).drop 0).take (w1 k a b + w2 k a b + 1)) = _
  rw [bitsOf_pk, List.drop_zero, List.take_left' (rgB_len k a b s)]
set_option maxHeartbeats 4000000 in
theorem cSet_fn {k a b n i : Nat} {N : List Nat} {s : Nat × Nat × Bool} (h : goodN k a b) (w : wellN k a b s) (hn : n ≤ 256) (hi : i < n) (hN : N.length = n) (hl : ∀ x ∈ N, x < 2 ^ wd k a b) :
    Fn1 Tryz.prog 34 [.ref 0 0 0 0, .lit (.int .i64 (i : Int)), sR s] [some (caC 1 k a b), some (vcC 2 n (wd k a b)), some (vcR n (wd k a b) (packN (wd k a b) N))] (.lit (.int .i64 0))
      [some (caC 1 k a b), some (vcC 2 n (wd k a b)), some (vcR n (wd k a b) (packN (wd k a b) (N.set i (numOf (rgB k a b s)))))] := by
  have hw := wd_ok h
  have hwl : (rgB k a b s).length = wd k a b := rgB_len k a b s
  have hlw := words_len (nwd n (wd k a b)) (packN (wd k a b) N)
  have g := getN_fn (n := n) (w := wd k a b) (i := i) (N := N) hn ⟨hw.1, by omega⟩ hi hl
  have wr := rWrite_fn (L := []) h w (by decide)
  rw [List.nil_append] at wr
  have bf := bytesF_fn (L := rgB k a b s) (by omega)
  have hpl := pk_len (rgB k a b s)
  have rd := read_fn (B := pk (rgB k a b s)) (by omega)
  have hI : IsB (pk (rgB k a b s)) := by
    intro x hx
    unfold pk pkTo at hx
    obtain ⟨j, _, rfl⟩ := List.mem_map.1 hx
    have := byteV_lt (rgB k a b s) j
    omega
  have nm := brnum_fn (B := pk (rgB k a b s)) (p := 0) (w := wd k a b) hI (by omega) (by omega) (by omega)
  rw [numOf_rgB] at nm
  have wdt := width_fn (n := n) (w := wd k a b) (L := words (nwd n (wd k a b)) (packN (wd k a b) N))
  have hx : numOf (rgB k a b s) < 2 ^ wd k a b := by rw [← hwl]; exact numOf_lt _
  have st := setN_fn (n := n) (w := wd k a b) (i := i) (x := numOf (rgB k a b s)) (N := N) hn ⟨hw.1, by omega⟩ hi hx hN hl
  refine fn1N_of pl34 (by kernel_rfl) Tryz.call34 Tryz.func34 rfl (by kernel_rfl) rfl [.tmp 6] (by kernel_rfl) fun Q hQ => ?_
  simp (maxSteps := 1000000) (disch := (first | omega | (simp only [lnA, List.length_map, List.length_range, true_and, and_true]; (try omega); done) | fail)) only [go_sem, Int.reduceEq, Int.reduceToNat, Nat.reduceAdd, Nat.reduceMul, Nat.reduceEqDiff, ↓reduceIte]
  refine callT (g) ?_
  simp (maxSteps := 1000000) (disch := (first | omega | (simp only [lnA, List.length_map, List.length_range, true_and, and_true]; (try omega); done) | fail)) only [go_sem, Int.reduceEq, Int.reduceToNat, Nat.reduceAdd, Nat.reduceMul, Nat.reduceEqDiff, ↓reduceIte]
  refine callW [some 4, none] [] (wr) ?_
  simp (maxSteps := 1000000) (disch := (first | omega | (simp only [lnA, List.length_map, List.length_range, true_and, and_true]; (try omega); done) | fail)) only [go_sem, Int.reduceEq, Int.reduceToNat, Nat.reduceAdd, Nat.reduceMul, Nat.reduceEqDiff, ↓reduceIte]
  refine callF (bf) ?_
  simp (maxSteps := 1000000) (disch := (first | omega | (simp only [lnA, List.length_map, List.length_range, true_and, and_true]; (try omega); done) | fail)) only [go_sem, Int.reduceEq, Int.reduceToNat, Nat.reduceAdd, Nat.reduceMul, Nat.reduceEqDiff, ↓reduceIte]
  refine callW [] [7] (rd) ?_
  simp (maxSteps := 1000000) (disch := (first | omega | (simp only [lnA, List.length_map, List.length_range, true_and, and_true]; (try omega); done) | fail)) only [go_sem, Int.reduceEq, Int.reduceToNat, Nat.reduceAdd, Nat.reduceMul, Nat.reduceEqDiff, ↓reduceIte]
  refine callT (wdt) ?_
  simp (maxSteps := 1000000) (disch := (first | omega | (simp only [lnA, List.length_map, List.length_range, true_and, and_true]; (try omega); done) | fail)) only [go_sem, Int.reduceEq, Int.reduceToNat, Nat.reduceAdd, Nat.reduceMul, Nat.reduceEqDiff, ↓reduceIte]
  refine callW [some 8] [] (nm) ?_
  simp (maxSteps := 1000000) (disch := (first | omega | (simp only [lnA, List.length_map, List.length_range, true_and, and_true]; (try omega); done) | fail)) only [go_sem, Int.reduceEq, Int.reduceToNat, Nat.reduceAdd, Nat.reduceMul, Nat.reduceEqDiff, ↓reduceIte]
  refine callW [some 1, some 2] [] (st) ?_
  simp (maxSteps := 1000000) (disch := (first | omega | (simp only [lnA, List.length_map, List.length_range, true_and, and_true]; (try omega); done) | fail)) only [go_sem, Int.reduceEq, Int.reduceToNat, Nat.reduceAdd, Nat.reduceMul, Nat.reduceEqDiff, ↓reduceIte]
  exact endW [some 0, some 1, some 2] hQ
end Go.Proofs.YteookgjmohokiaaGreat

namespace Go.Proofs.YteookgjmohokiaaGreat
open Go.Eng Go.Vx
set_option linter.unusedSimpArgs false
set_option linter.unusedVariables false
set_option maxRecDepth 100000
def goodA (K P C : Int) : Prop := (K = 1 ∧ 1 ≤ P ∧ P ≤ 8 ∨ K = 2 ∧ P = 0) ∧ 1 ≤ C ∧ C ≤ 16
theorem acheck_fn {K P C : Int} (h : goodA K P C) : Fn1 Tryz.prog 98 [.agg [.lit (.int .i64 K), .lit (.int .i64 P), .lit (.int .i64 C)]] [] (.lit (.int .i64 0)) [] := by
  obtain ⟨h, h1, h2⟩ := h
  refine fn1N_of pl98 (by kernel_rfl) Tryz.call98 Tryz.func98 rfl (by kernel_rfl) rfl [.tmp 2] (by kernel_rfl) fun Q hQ => ?_
  rcases h with ⟨rfl, h3, h4⟩ | ⟨rfl, rfl⟩
  · simp (maxSteps := 1000000) (disch := (first | omega | (simp only [lnA, List.length_map, List.length_range, true_and, and_true]; (try omega); done) | fail)) only [go_sem, Int.reduceEq, Int.reduceToNat, Nat.reduceAdd, Nat.reduceMul, Nat.reduceEqDiff, ↓reduceIte]
    exact endW [] hQ
  · simp (maxSteps := 1000000) (disch := (first | omega | (simp only [lnA, List.length_map, List.length_range, true_and, and_true]; (try omega); done) | fail)) only [go_sem, Int.reduceEq, Int.reduceToNat, Nat.reduceAdd, Nat.reduceMul, Nat.reduceEqDiff, ↓reduceIte]
    exact endW [] hQ
theorem acheckE_fn {K P C : Int} (h : ¬ goodA K P C) : Fn1 Tryz.prog 98 [.agg [.lit (.int .i64 K), .lit (.int .i64 P), .lit (.int .i64 C)]] [] (.lit (.int .i64 10)) [] := by
  refine fn1N_of pl98 (by kernel_rfl) Tryz.call98 Tryz.func98 rfl (by kernel_rfl) rfl [.tmp 2] (by kernel_rfl) fun Q hQ => ?_
  unfold goodA at h
  by_cases h1 : K = 1
  · subst h1
    by_cases h2 : 1 ≤ P
    · by_cases h3 : P ≤ 8
      · by_cases h4 : C < 1
        · simp (maxSteps := 1000000) (disch := (first | omega | (simp only [lnA, List.length_map, List.length_range, true_and, and_true]; (try omega); done) | fail)) only [go_sem, Int.reduceEq, Int.reduceToNat, Nat.reduceAdd, Nat.reduceMul, Nat.reduceEqDiff, ↓reduceIte]
          exact endW [] hQ
        · have h5 : 16 < C := by omega
          simp (maxSteps := 1000000) (disch := (first | omega | (simp only [lnA, List.length_map, List.length_range, true_and, and_true]; (try omega); done) | fail)) only [go_sem, Int.reduceEq, Int.reduceToNat, Nat.reduceAdd, Nat.reduceMul, Nat.reduceEqDiff, ↓reduceIte]
          exact endW [] hQ
      · simp (maxSteps := 1000000) (disch := (first | omega | (simp only [lnA, List.length_map, List.length_range, true_and, and_true]; (try omega); done) | fail)) only [go_sem, Int.reduceEq, Int.reduceToNat, Nat.reduceAdd, Nat.reduceMul, Nat.reduceEqDiff, ↓reduceIte]
        exact endW [] hQ
    · simp (maxSteps := 1000000) (disch := (first | omega | (simp only [lnA, List.length_map, List.length_range, true_and, and_true]; (try omega); done) | fail)) only [go_sem, Int.reduceEq, Int.reduceToNat, Nat.reduceAdd, Nat.reduceMul, Nat.reduceEqDiff, ↓reduceIte]
      exact endW [] hQ
  · by_cases h2 : K = 2
    · subst h2
      by_cases h3 : P = 0
      · subst h3
        by_cases h4 : C < 1
        · simp (maxSteps := 1000000) (disch := (first | omega | (simp only [lnA, List.length_map, List.length_range, true_and, and_true]; (try omega); done) | fail)) only [go_sem, Int.reduceEq, Int.reduceToNat, Nat.reduceAdd, Nat.reduceMul, Nat.reduceEqDiff, ↓reduceIte]
          exact endW [] hQ
        · have h5 : 16 < C := by omega
          simp (maxSteps := 1000000) (disch := (first | omega | (simp only [lnA, List.length_map, List.length_range, true_and, and_true]; (try omega); done) | fail)) only [go_sem, Int.reduceEq, Int.reduceToNat, Nat.reduceAdd, Nat.reduceMul, Nat.reduceEqDiff, ↓reduceIte]
          exact endW [] hQ
      · simp (maxSteps := 1000000) (disch := (first | omega | (simp only [lnA, List.length_map, List.length_range, true_and, and_true]; (try omega); done) | fail)) only [go_sem, Int.reduceEq, Int.reduceToNat, Nat.reduceAdd, Nat.reduceMul, Nat.reduceEqDiff, ↓reduceIte]
        exact endW [] hQ
    · simp (maxSteps := 1000000) (disch := (first | omega | (simp only [lnA, List.length_map, List.length_range, true_and, and_true]; (try omega); done) | fail)) only [go_sem, Int.reduceEq, Int.reduceToNat, Nat.reduceAdd, Nat.reduceMul, Nat.reduceEqDiff, ↓reduceIte]
      exact endW [] hQ
def gN (K : Int) (P N : Nat) : Nat := if K = 2 then N * lgN (max 1 N) else N ^ P
def sV (x : Nat × Nat) : List PV := [.lit (.int .u64 (x.1 : Int)), .lit (.int .i64 (x.2 : Int))]
def amC (K P C : Int) (X : List (Nat × Nat)) (N : Nat) : Ob := .cells [.lit (.int .i64 K), .lit (.int .i64 P), .lit (.int .i64 C), .row 2 (X.map sV), .lit (.int .i64 (N : Int))]
def amP (K P C : Int) (X : List (Nat × Nat)) (N : Nat) : V := .rref 5 [[.lit (.int .i64 K), .lit (.int .i64 P), .lit (.int .i64 C), .row 2 (X.map sV), .lit (.int .i64 (N : Int))]] 0 0
attribute [go_sem] amC amP
@[go_sem] theorem sV_eq {x : Nat × Nat} : sV x = [.lit (.int .u64 (x.1 : Int)), .lit (.int .i64 (x.2 : Int))] := (rfl)
theorem anewE_fn {K P C : Int} (h : ¬ goodA K P C) : Fn1 Tryz.prog 89 [.agg [.lit (.int .i64 K), .lit (.int .i64 P), .lit (.int .i64 C)]] [] (.tup [.lit (.pointer none), .lit (.int .i64 10)]) [] := by
  have hc := acheckE_fn h
  refine fn1N_of pl89 (by kernel_rfl) Tryz.call89 Tryz.func89 rfl (by kernel_rfl) rfl [.tmp 2, .tmp 3] (by kernel_rfl) fun Q hQ => ?_
  simp (maxSteps := 1000000) (disch := (first | omega | (simp only [lnA, List.length_map, List.length_range, true_and, and_true]; (try omega); done) | fail)) only [go_sem, Int.reduceEq, Int.reduceToNat, Nat.reduceAdd, Nat.reduceMul, Nat.reduceEqDiff, ↓reduceIte]
  refine callV0 (hc) rfl rfl ?_
  simp (maxSteps := 1000000) (disch := (first | omega | (simp only [lnA, List.length_map, List.length_range, true_and, and_true]; (try omega); done) | fail)) only [go_sem, Int.reduceEq, Int.reduceToNat, Nat.reduceAdd, Nat.reduceMul, Nat.reduceEqDiff, ↓reduceIte]
  exact endW [] hQ
def dG (K : Int) (P R : Nat) : Rat := (((gN K P R : Nat) : Int) : Rat) - (((gN K P (R - 1) : Nat) : Int) : Rat)
def dGe (K : Int) (P R : Nat) : Rat := if K = 2 then dG K P R / ((268435456 : Int) : Rat) else dG K P R
end Go.Proofs.YteookgjmohokiaaGreat

namespace Go.Proofs.YteookgjmohokiaaGreat
open Go.Eng Go.Vx
set_option linter.unusedSimpArgs false
set_option linter.unusedVariables false
set_option maxRecDepth 100000
def SPof (M D S : Nat) : SP := ⟨2 ^ M - 1, 2 ^ D - 1, S⟩
structure WB (M D S : Nat) : Prop where
  m1 : 1 ≤ M
  d1 : 1 ≤ D
  d2 : D ≤ 2
  s1 : 1 ≤ S
end Go.Proofs.YteookgjmohokiaaGreat
