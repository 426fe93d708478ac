import Derived.Test.YteookgjmohokiaaGreatHe
import Derived.Test.YteookgjmohokiaaGreatIf
import Derived.Test.YteookgjmohokiaaGreatD2
import Derived.Test.YteookgjmohokiaaGreatD1
namespace Go.Proofs.YteookgjmohokiaaGreat
open Go.Eng Go.Vx
set_option linter.unusedSimpArgs false
set_option linter.unusedVariables false
set_option maxRecDepth 100000
theorem hdB_len (t : Nat) : (hdB t).length = 7 := by
  unfold hdB
  rw [List.length_append, numBits_len, numBits_len]
theorem getD_leN {N : List Nat} {m : Nat} (h : ∀ x ∈ N, x ≤ m) (i : Nat) : N.getD i 0 ≤ m := by
  rcases Nat.lt_or_ge i N.length with hi | hi
  · rw [List.getD_eq_getElem?_getD, List.getElem?_eq_getElem hi]; exact h _ (List.getElem_mem hi)
  · rw [List.getD_eq_getElem?_getD, List.getElem?_eq_none hi]; exact Nat.zero_le _
set_option maxHeartbeats 2000000 in
theorem eReg_fn {k a b : Nat} {s : Nat × Nat × Bool} (h : goodN k a b) (w : wellN k a b s) : Fn1 Tryz.prog 12 [itR k a b s] []
    (.tup [.row 1 ((nl (sealN (pkb (hdB 1 ++ gms [k, a, b] ++ rgB k a b s)))).map (ie .u8)), .lit (.int .i64 0)]) [] := by
  have ck := ckReg_fn h w
  have ns := numsR_fn (k := k) (a := a) (b := b) (s := s)
  have hN3 : ([k, a, b] : List Nat).length = 3 := rfl
  have hNm : ∀ x ∈ ([k, a, b] : List Nat), x ≤ 1048576 := by
    intro x hx
    simp only [List.mem_cons, List.not_mem_nil, or_false] at hx
    rcases h with h | h | h | h <;> omega
  have hrl := rgB_len k a b s
  have hwl := w_le h
  have n1 := num_fn (L := []) (n := 1) (m := 4) (by decide) (by decide) (by decide) (by decide) (by decide)
  have n2 := num_fn (L := numBits 1 4) (n := 1) (m := 3) (by decide) (by rw [numBits_len]; decide) (by decide) (by decide) (by decide)
  rw [List.nil_append] at n1
  have rw1 := fun (L : List Bool) (hL : L.length < 1099511600000) => rWrite_fn (L := L) h w hL
  generalize [k, a, b] = N at *
  have hnl := nl_len N
  have hgl := gms_len hNm
  have hhl := hdB_len 1
  have hbl : (hdB 1 ++ gms N ++ rgB k a b s).length ≤ 200 := by
    rw [List.length_append, List.length_append]
    omega
  have e0 : numBits 1 4 ++ numBits 1 3 = hdB 1 ++ gms (N.take 0) := by
    rw [List.take_zero]
    show _ = (numBits 1 4 ++ numBits 1 3) ++ []
    rw [List.append_nil]
  change Fn1 _ _ _ _ _ [some (wrC 2 (numBits 1 4 ++ numBits 1 3)), none, some (wrR (numBits 1 4 ++ numBits 1 3))] at n2
  rw [e0] at n2
  refine fn1N_of pl12 (by kernel_rfl) Tryz.call12 Tryz.func12 rfl (by kernel_rfl) rfl [.tmp 2, .tmp 3] (by kernel_rfl) fun Q hQ => ?_
  simp (maxSteps := 1000000) (disch := (first | omega | (simp only [lnA, List.length_map, List.length_range, true_and, and_true]; (try omega); done) | fail)) only [go_sem, Int.reduceEq, Int.reduceToNat, Nat.reduceAdd, Nat.reduceMul, Nat.reduceEqDiff, ↓reduceIte]
  refine callV0 (ck) rfl rfl ?_
  simp (maxSteps := 1000000) (disch := (first | omega | (simp only [lnA, List.length_map, List.length_range, true_and, and_true]; (try omega); done) | fail)) only [go_sem, Int.reduceEq, Int.reduceToNat, Nat.reduceAdd, Nat.reduceMul, Nat.reduceEqDiff, ↓reduceIte]
  refine callW [some 1, none] [] (n1) ?_
  simp (maxSteps := 1000000) (disch := (first | omega | (simp only [lnA, List.length_map, List.length_range, true_and, and_true]; (try omega); done) | fail)) only [go_sem, Int.reduceEq, Int.reduceToNat, Nat.reduceAdd, Nat.reduceMul, Nat.reduceEqDiff, ↓reduceIte]
  refine callW [some 1, some 3] [] (n2) ?_
  simp (maxSteps := 1000000) (disch := (first | omega | (simp only [lnA, List.length_map, List.length_range, true_and, and_true]; (try omega); done) | fail)) only [go_sem, Int.reduceEq, Int.reduceToNat, Nat.reduceAdd, Nat.reduceMul, Nat.reduceEqDiff, ↓reduceIte]
  refine callV0 (ns) rfl rfl ?_
  simp (maxSteps := 1000000) (disch := (first | omega | (simp only [lnA, List.length_map, List.length_range, true_and, and_true]; (try omega); done) | fail)) only [go_sem, Int.reduceEq, Int.reduceToNat, Nat.reduceAdd, Nat.reduceMul, Nat.reduceEqDiff, ↓reduceIte]
  refine loopW (X := Nat) (st := fun i => ([(1, .ref 0 0 0 0), (5, .ref 1 0 0 0), (23, .row 1 ((nl N).map (ie .i64))), (24, .lit (.int .i64 3)), (25, .lit (.int .i64 (i : Int)))],
      [some (.cells [.lit (.int .i64 1), .lit (.int .i64 (k : Int)), .lit (.int .i64 (a : Int)), .lit (.int .i64 (b : Int)), .lit (.int .i64 (s.1 : Int)), .lit (.int .i64 (s.2.1 : Int)), .lit (.bool s.2.2), .lit (.pointer none), .lit (.pointer none), .lit (.pointer none), .lit (.pointer none)]), some (wrC 2 (hdB 1 ++ gms (N.take i))), some (wrR (hdB 1 ++ gms (N.take i)))]))
    (inv := fun i => i ≤ 3) (m := fun i => 3 - i) 0 [some 0, some 1, some 4] (Nat.zero_le _) ?_
  intro i hi
  by_cases hil : i < 3
  · have hg := nl_get N i
    have hx := getD_leN hNm i
    have hgl2 := gms_len (N := N.take i) fun x hx => hNm x (List.mem_of_mem_take hx)
    have hti : (N.take i).length ≤ 3 := by rw [List.length_take]; omega
    have gm := putGamma_fn (L := hdB 1 ++ gms (N.take i)) (n := N.getD i 0 + 1) (by omega) (by omega) (by rw [List.length_append]; omega)
    rw [List.append_assoc, ← gms_take (by omega)] at gm
    generalize N.getD i 0 = x at *
    rw [show ((x + 1 : Nat) : Int) = (x : Int) + 1 by omega] at gm
    simp (maxSteps := 1000000) (disch := (first | omega | (simp only [lnA, List.length_map, List.length_range, true_and, and_true]; (try omega); done) | fail)) only [go_sem, hg, Int.reduceEq, Int.reduceToNat, Nat.reduceAdd, Nat.reduceMul, Nat.reduceEqDiff, ↓reduceIte]
    refine callW [some 1, some 2] [] (gm) ?_
    simp (maxSteps := 1000000) (disch := (first | omega | (simp only [lnA, List.length_map, List.length_range, true_and, and_true]; (try omega); done) | fail)) only [go_sem, Int.reduceEq, Int.reduceToNat, Nat.reduceAdd, Nat.reduceMul, Nat.reduceEqDiff, ↓reduceIte]
    refine nextW (i + 1) [some 0, some 1, some 3] (by omega) (by omega)
  · obtain rfl : i = 3 := by omega
    rw [List.take_of_length_le (by omega)]
    have wr := rw1 (hdB 1 ++ gms N) (by rw [List.length_append]; omega)
    have by_ := bytesR_fn (L := hdB 1 ++ gms N ++ rgB k a b s) (by omega)
    have sl := seal_fn (l := pkb (hdB 1 ++ gms N ++ rgB k a b s)) (pkb_lt _) (by rw [pkb_len]; omega)
    rw [pk_nl] at by_
    simp (maxSteps := 1000000) (disch := (first | omega | (simp only [lnA, List.length_map, List.length_range, true_and, and_true]; (try omega); done) | fail)) only [go_sem, Int.reduceEq, Int.reduceToNat, Nat.reduceAdd, Nat.reduceMul, Nat.reduceEqDiff, ↓reduceIte]
    refine callW [some 1, some 2] [] (wr) ?_
    simp (maxSteps := 1000000) (disch := (first | omega | (simp only [lnA, List.length_map, List.length_range, true_and, and_true]; (try omega); done) | fail)) only [go_sem, Int.reduceEq, Int.reduceToNat, Nat.reduceAdd, Nat.reduceMul, Nat.reduceEqDiff, ↓reduceIte]
    refine callW [some 1, some 3] [] (by_) ?_
    simp (maxSteps := 1000000) (disch := (first | omega | (simp only [lnA, List.length_map, List.length_range, true_and, and_true]; (try omega); done) | fail)) only [go_sem, Int.reduceEq, Int.reduceToNat, Nat.reduceAdd, Nat.reduceMul, Nat.reduceEqDiff, ↓reduceIte]
    refine callV0 (sl) rfl rfl ?_
    simp (maxSteps := 1000000) (disch := (first | omega | (simp only [lnA, List.length_map, List.length_range, true_and, and_true]; (try omega); done) | fail)) only [go_sem, Int.reduceEq, Int.reduceToNat, Nat.reduceAdd, Nat.reduceMul, Nat.reduceEqDiff, ↓reduceIte]
    exact endW [] hQ
end Go.Proofs.YteookgjmohokiaaGreat

namespace Go.Proofs.YteookgjmohokiaaGreat
open Go.Eng Go.Vx
set_option linter.unusedSimpArgs false
set_option linter.unusedVariables false
set_option maxRecDepth 100000
end Go.Proofs.YteookgjmohokiaaGreat

namespace Go.Proofs.YteookgjmohokiaaGreat
open Go.Eng Go.Vx
set_option linter.unusedSimpArgs false
set_option linter.unusedVariables false
set_option maxRecDepth 100000
end Go.Proofs.YteookgjmohokiaaGreat

namespace Go.Proofs.YteookgjmohokiaaGreat
open Go.Eng Go.Vx
set_option linter.unusedSimpArgs false
set_option linter.unusedVariables false
set_option maxRecDepth 100000
def stI (x : Int × Int × Bool) : List PV := [.lit (.int .i64 x.1), .lit (.int .i64 x.2.1), .lit (.bool x.2.2)]
def stN (x : Nat × Nat × Bool) : List PV := [.lit (.int .i64 (x.1 : Int)), .lit (.int .i64 (x.2.1 : Int)), .lit (.bool x.2.2)]
def mkS (k a b : Nat) (l : List (Int × Int × Bool)) : List (Nat × Nat × Bool) := if l = [] then [(0, 0, false)] else (l.take 8).map (wi k a b)
def nuS (k a b : Nat) (S : List (Nat × Nat × Bool)) (i : Nat) : List Nat := (S.take i).map (fun s => numOf (rgB k a b s)) ++ List.replicate (S.length - i) 0
end Go.Proofs.YteookgjmohokiaaGreat

namespace Go.Proofs.YteookgjmohokiaaGreat
open Go.Eng Go.Vx
set_option linter.unusedSimpArgs false
set_option linter.unusedVariables false
set_option maxRecDepth 100000
theorem awake25_fn : Fn1 Tryz.prog 5 [] [] (.lit (.bool true)) [] := by
  have hg : goodN 2 1 3 := .inr (.inl ⟨rfl, by decide, by decide, by decide⟩)
  have hw : wellN 2 1 3 (5, 0, false) := by unfold wellN; rw [if_neg (by decide)]; exact ⟨rfl, by decide, fun h => by cases h⟩
  have hp : pkb (hdB 1 ++ gms [2, 1, 3] ++ rgB 2 1 3 (5, 0, false)) = [18, 209, 40] := by decide +kernel
  obtain ⟨c0, c1, c2, c3, hc⟩ : ∃ c0 c1 c2 c3, (nl (sealN [18, 209, 40])).map (ie .u8) = [[.lit (.int .u8 18)], [.lit (.int .u8 209)], [.lit (.int .u8 40)], c0, c1, c2, c3] := ⟨_, _, _, _, rfl⟩
  have en := eReg_fn hg hw
  have ck := ckReg_fn hg hw
  rw [hp, hc] at en
  generalize hx : itR 2 1 3 (5, 0, false) = x at en ck
  have hx' : x = .agg [.lit (.int .i64 1), .lit (.int .i64 2), .lit (.int .i64 1), .lit (.int .i64 3), .lit (.int .i64 5), .lit (.int .i64 0), .lit (.bool false), .lit (.pointer none), .lit (.pointer none), .lit (.pointer none), .lit (.pointer none)] := hx.symm
  subst hx'
  clear hx
  refine fn1N_of pl5 (by kernel_rfl) Tryz.call5 Tryz.func5 rfl (by kernel_rfl) rfl [.tmp 0] (by kernel_rfl) fun Q hQ => ?_
  simp (maxSteps := 1000000) (disch := (first | omega | (simp only [lnA, List.length_map, List.length_range, true_and, and_true]; (try omega); done) | fail)) only [go_sem, Int.reduceEq, Int.reduceToNat, Nat.reduceAdd, Nat.reduceMul, Nat.reduceEqDiff, ↓reduceIte]
  refine callV0 (en) rfl rfl ?_
  simp (maxSteps := 1000000) (disch := (first | omega | (simp only [lnA, List.length_map, List.length_range, true_and, and_true]; (try omega); done) | fail)) only [go_sem, Int.reduceEq, Int.reduceToNat, Nat.reduceAdd, Nat.reduceMul, Nat.reduceEqDiff, ↓reduceIte]
  refine callV0 (ck) rfl rfl ?_
  simp (maxSteps := 1000000) (disch := (first | omega | (simp only [lnA, List.length_map, List.length_range, true_and, and_true]; (try omega); done) | fail)) only [go_sem, Int.reduceEq, Int.reduceToNat, Nat.reduceAdd, Nat.reduceMul, Nat.reduceEqDiff, ↓reduceIte]
  exact endW [] hQ
def rgs (k a b : Nat) (S : List (Nat × Nat × Bool)) : List Bool := S.flatMap (rgB k a b)
end Go.Proofs.YteookgjmohokiaaGreat
