import Derived.Test.YtakajkgondadiaaFb
import Derived.Test.YtakajkgondadiaaFt
/-! Package tallymarklaw10: what is asked of each tape; the weights (by the kernel). -/
namespace Go.Proofs.Ytakajkgondadiaa
open Go.Eng Go.Vx
set_option linter.unusedSimpArgs false
set_option linter.unusedVariables false
set_option maxRecDepth 100000
def askH (K : Nat) (L : List Bool) : Bool × Int := ((halfX L K 0).1, (halfX L K 0).2.1)
def askF (P D : Nat) (L : List Bool) : Bool × Int := ((ratX L P D 0).1, (ratX L P D 0).2.1)
def askW (P D K : Nat) (L : List Bool) : Bool × Int := ((powX L P D K 0).1, (powX L P D K 0).2.1)
theorem askH_fn {K : Nat} (hK : K ≤ 1000) : FskOk1 9 20 (K : Int) (askH K) := by
  intro L hL
  refine ⟨(halfX L K 0).2.2.1, (halfX L K 0).2.2.2, ?_⟩
  refine fn1_of pl9 (by kernel_rfl) Try.call9 Try.func9 rfl (by kernel_rfl) rfl [.tmp 3, .tmp 4] (by kernel_rfl) fun Q hQ => ?_
  unfold askH at hQ
  have hb := half_fn (L := L) (p := 0) (K := K) (k := (K : Int)) (by omega) (by omega) (by omega) (by omega)
  generalize halfX L K 0 = r at *
  simp (maxSteps := 1000000) (disch := (first | omega | (simp only [List.length_append, List.length_set, List.length_cons, List.length_nil, List.length_replicate, List.length_take, List.length_drop, List.length_map, List.length_range, true_and, and_true]; (try omega); done) | fail)) only [go_sem, Int.reduceEq, Int.reduceToNat, Nat.reduceAdd, Nat.reduceMul, Nat.reduceEqDiff, ↓reduceIte]
  refine callW [some 0] [] (hb) ?_
  simp (maxSteps := 1000000) (disch := (first | omega | (simp only [List.length_append, List.length_set, List.length_cons, List.length_nil, List.length_replicate, List.length_take, List.length_drop, List.length_map, List.length_range, true_and, and_true]; (try omega); done) | fail)) only [go_sem, Int.reduceEq, Int.reduceToNat, Nat.reduceAdd, Nat.reduceMul, Nat.reduceEqDiff, ↓reduceIte]
  exact endW [some 0, some 1] hQ
theorem askF_fn {P D : Nat} (hP : P ≤ 4294967296) (hD : D ≤ 4294967296) : FskOk2 11 20 (P : Int) (D : Int) (askF P D) := by
  intro L hL
  refine ⟨(ratX L P D 0).2.2.1, (ratX L P D 0).2.2.2, ?_⟩
  refine fn1_of pl11 (by kernel_rfl) Try.call11 Try.func11 rfl (by kernel_rfl) rfl [.tmp 4, .tmp 5] (by kernel_rfl) fun Q hQ => ?_
  unfold askF at hQ
  have w1 : (wg P).length ≤ 500000 := Nat.le_trans (wg_one (by omega)) (by decide)
  have w3 : (wg D).length ≤ 500000 := Nat.le_trans (wg_one (by omega)) (by decide)
  have hb := ratio_fn (L := L) (P := P) (D := D) (p := 0) (by omega) (by omega) w1 w3
  generalize ratX L P D 0 = r at *
  simp (maxSteps := 1000000) (disch := (first | omega | (simp only [List.length_append, List.length_set, List.length_cons, List.length_nil, List.length_replicate, List.length_take, List.length_drop, List.length_map, List.length_range, true_and, and_true]; (try omega); done) | fail)) only [go_sem, Int.reduceEq, Int.reduceToNat, Nat.reduceAdd, Nat.reduceMul, Nat.reduceEqDiff, ↓reduceIte]
  refine callW [] [3] (of1_fn (x := P) (by omega)) ?_
  simp (maxSteps := 1000000) (disch := (first | omega | (simp only [List.length_append, List.length_set, List.length_cons, List.length_nil, List.length_replicate, List.length_take, List.length_drop, List.length_map, List.length_range, true_and, and_true]; (try omega); done) | fail)) only [go_sem, Int.reduceEq, Int.reduceToNat, Nat.reduceAdd, Nat.reduceMul, Nat.reduceEqDiff, ↓reduceIte]
  refine callW [] [4] (of1_fn (x := D) (by omega)) ?_
  simp (maxSteps := 1000000) (disch := (first | omega | (simp only [List.length_append, List.length_set, List.length_cons, List.length_nil, List.length_replicate, List.length_take, List.length_drop, List.length_map, List.length_range, true_and, and_true]; (try omega); done) | fail)) only [go_sem, Int.reduceEq, Int.reduceToNat, Nat.reduceAdd, Nat.reduceMul, Nat.reduceEqDiff, ↓reduceIte]
  refine callW [some 0] [] (hb) ?_
  simp (maxSteps := 1000000) (disch := (first | omega | (simp only [List.length_append, List.length_set, List.length_cons, List.length_nil, List.length_replicate, List.length_take, List.length_drop, List.length_map, List.length_range, true_and, and_true]; (try omega); done) | fail)) only [go_sem, Int.reduceEq, Int.reduceToNat, Nat.reduceAdd, Nat.reduceMul, Nat.reduceEqDiff, ↓reduceIte]
  exact endW [some 0, some 1, some 2] hQ
theorem askW_fn {P D K : Nat} (hP : P ≤ 4294967296) (hD : D ≤ 4294967296) (hK : K ≤ 1000) : FskOk3 14 20 (P : Int) (D : Int) (K : Int) (askW P D K) := by
  intro L hL
  refine ⟨(powX L P D K 0).2.2.1, (powX L P D K 0).2.2.2, ?_⟩
  refine fn1_of pl14 (by kernel_rfl) Try.call14 Try.func14 rfl (by kernel_rfl) rfl [.tmp 5, .tmp 6] (by kernel_rfl) fun Q hQ => ?_
  unfold askW at hQ
  have w1 : (wg P).length ≤ 500000 := Nat.le_trans (wg_one (by omega)) (by decide)
  have w3 : (wg D).length ≤ 500000 := Nat.le_trans (wg_one (by omega)) (by decide)
  have hb := power_fn (L := L) (P := P) (D := D) (p := 0) (K := K) (k := (K : Int)) (by omega) (by omega) w1 w3 (by omega) (by omega)
  generalize powX L P D K 0 = r at *
  simp (maxSteps := 1000000) (disch := (first | omega | (simp only [List.length_append, List.length_set, List.length_cons, List.length_nil, List.length_replicate, List.length_take, List.length_drop, List.length_map, List.length_range, true_and, and_true]; (try omega); done) | fail)) only [go_sem, Int.reduceEq, Int.reduceToNat, Nat.reduceAdd, Nat.reduceMul, Nat.reduceEqDiff, ↓reduceIte]
  refine callW [] [4] (of1_fn (x := P) (by omega)) ?_
  simp (maxSteps := 1000000) (disch := (first | omega | (simp only [List.length_append, List.length_set, List.length_cons, List.length_nil, List.length_replicate, List.length_take, List.length_drop, List.length_map, List.length_range, true_and, and_true]; (try omega); done) | fail)) only [go_sem, Int.reduceEq, Int.reduceToNat, Nat.reduceAdd, Nat.reduceMul, Nat.reduceEqDiff, ↓reduceIte]
  refine callW [] [5] (of1_fn (x := D) (by omega)) ?_
  simp (maxSteps := 1000000) (disch := (first | omega | (simp only [List.length_append, List.length_set, List.length_cons, List.length_nil, List.length_replicate, List.length_take, List.length_drop, List.length_map, List.length_range, true_and, and_true]; (try omega); done) | fail)) only [go_sem, Int.reduceEq, Int.reduceToNat, Nat.reduceAdd, Nat.reduceMul, Nat.reduceEqDiff, ↓reduceIte]
  refine callW [some 0] [] (hb) ?_
  simp (maxSteps := 1000000) (disch := (first | omega | (simp only [List.length_append, List.length_set, List.length_cons, List.length_nil, List.length_replicate, List.length_take, List.length_drop, List.length_map, List.length_range, true_and, and_true]; (try omega); done) | fail)) only [go_sem, Int.reduceEq, Int.reduceToNat, Nat.reduceAdd, Nat.reduceMul, Nat.reduceEqDiff, ↓reduceIte]
  exact endW [some 0, some 1, some 2, some 3] hQ
theorem FskOk1.le {g m k : Nat} {v0 : Int} {A : List Bool → Bool × Int} (h : FskOk1 g m v0 A) (hk : k ≤ m) : FskOk1 g k v0 A := fun L hL => h L (by omega)
theorem FskOk2.le {g m k : Nat} {v0 v1 : Int} {A : List Bool → Bool × Int} (h : FskOk2 g m v0 v1 A) (hk : k ≤ m) : FskOk2 g k v0 v1 A := fun L hL => h L (by omega)
theorem FskOk3.le {g m k : Nat} {v0 v1 v2 : Int} {A : List Bool → Bool × Int} (h : FskOk3 g m v0 v1 v2 A) (hk : k ≤ m) : FskOk3 g k v0 v1 v2 A := fun L hL => h L (by omega)
def halfOk (K : Nat) : Bool := ftreeX (askH K) 8 == (((2 ^ (8 - K) : Nat) : Int), 256 - ((2 ^ (8 - K) : Nat) : Int), 0)
theorem halfOks : ((List.range 9).all halfOk) = true := by decide +kernel
def ratT (D P : Nat) (s : Int × Int × Int) : Bool := s.1 + s.2.1 + s.2.2 == 1024 && decide (s.1 * D ≤ P * 1024) && decide ((P : Int) * 1024 ≤ (s.1 + s.2.2) * D) && decide (s.2.2 ≤ 1)
def ratOk (D P : Nat) : Bool := ratT D P (ftreeX (askF P D) 10)
theorem ratOks1 : ((List.range 31).all fun D => (List.range (D + 1)).all fun P => ratOk D P || D == 0) = true := by decide +kernel
theorem ratOks2 : ((List.range 31).all fun d => (List.range (d + 31)).all fun P => ratOk (d + 30) P) = true := by decide +kernel
def powT (s P K : Nat) (z : Int × Int × Int) : Bool := z.1 + z.2.1 + z.2.2 == 4096 && decide (z.1 * ((2 ^ s) ^ K : Nat) ≤ (P ^ K : Nat) * 4096) && decide (((P ^ K : Nat) : Int) * 4096 ≤ (z.1 + z.2.2) * ((2 ^ s) ^ K : Nat))
def powOk (s P K : Nat) : Bool := powT s P K (ftreeX (askW P (2 ^ s) K) 12)
theorem powOks : ((List.range 3).all fun s => (List.range (2 ^ s + 1)).all fun P => (List.range 5).all fun K => powOk s P K) = true := by decide +kernel
end Go.Proofs.Ytakajkgondadiaa
