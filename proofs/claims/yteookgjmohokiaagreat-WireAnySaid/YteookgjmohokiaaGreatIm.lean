import Derived.Test.YteookgjmohokiaaGreatIl
namespace Go.Proofs.YteookgjmohokiaaGreat
open Go.Eng Go.Vx
set_option linter.unusedSimpArgs false
set_option linter.unusedVariables false
set_option maxRecDepth 100000
def rwB (k a b : Nat) (r : RW) : List Bool := numBits r.1 61 ++ numBits r.2.1 61 ++ wbits (wd k a b) (r.2.2.map (nuO k a b))
def rwsB (k a b : Nat) (l : List RW) : List Bool := l.flatMap (rwB k a b)
def cmB (k a b : Nat) (l : List RW) (T : Nat) : List Bool := varB T ++ rwsB k a b l
theorem rwsB_cons (k a b : Nat) (x : RW) (l : List RW) : rwsB k a b (x :: l) = rwB k a b x ++ rwsB k a b l := by simp [rwsB]
theorem rwsB_app (k a b : Nat) (l m : List RW) : rwsB k a b (l ++ m) = rwsB k a b l ++ rwsB k a b m := by simp [rwsB]
theorem rwsB_take {k a b : Nat} {l : List RW} {i : Nat} {x : RW} (h : l[i]? = some x) : rwsB k a b (l.take (i + 1)) = rwsB k a b (l.take i) ++ numBits x.1 61 ++ numBits x.2.1 61 ++ wbits (wd k a b) (x.2.2.map (nuO k a b)) := by
  rw [List.take_add_one, h, rwsB_app]
  simp [rwsB, rwB]
theorem rwB_len {k a b C : Nat} {r : RW} (h : okRow k a b C r) : (rwB k a b r).length = 122 + C * wd k a b := by
  unfold rwB
  rw [List.length_append, List.length_append, numBits_len, numBits_len, wbits_len, List.length_map, h.2.2.1]
theorem rwsB_len {k a b C : Nat} : ∀ {l : List RW}, (∀ r ∈ l, okRow k a b C r) → (rwsB k a b l).length = l.length * (122 + C * wd k a b)
  | [], _ => by simp [rwsB]
  | r :: l, h => by
    rw [rwsB_cons, List.length_append, rwB_len (h r (by simp)), rwsB_len (l := l) (fun x hx => h x (by simp [hx])), List.length_cons, Nat.succ_mul]
    omega
theorem varB_mid {n : Nat} (h : n ≤ 1099511627776) : (varB n).length ≤ 48 := by
  have hb := bl_le_of (n := n) (k := 41) (by omega)
  rw [varB_len]
  omega
@[go_sem] theorem rwP_eq {k a b C : Nat} {r : RW} : rwP k a b C r = [.lit (.int .u64 (r.1 : Int)), .lit (.int .u64 (r.2.1 : Int)), .ptr 4 [[.ptr 3 [[.row 1 ((words (nwd C (wd k a b)) (packN (wd k a b) (r.2.2.map (nuO k a b)))).map (ie .u64)), .lit (.int .i64 (C : Int)), .lit (.int .i64 (wd k a b : Int))]] 0 0, .lit (.int .i64 (k : Int)), .lit (.int .i64 (a : Int)), .lit (.int .i64 (b : Int))]] 0 0] := (rfl)
set_option maxHeartbeats 4000000 in
theorem cmWriteP_fn {R C k a b T : Nat} {l : List RW} {L : List Bool} (h : goodN k a b) (hC : 1 ≤ C ∧ C ≤ 64) (hR : l.length ≤ 4) (hl : ∀ r ∈ l, okRow k a b C r) (hT : T ≤ 1099511627776) (hL : L.length < 1000000000) :
    Fn1 Tryz.prog 29 [cmP R C k a b l T, .ref 0 0 0 0] [some (wrC 1 L), some (wrR L)] (.tup []) [some (wrC 2 (L ++ cmB k a b l T)), none, some (wrR (L ++ cmB k a b l T))] := by
  have hvl := varB_mid hT
  have hwd := wd_ok h
  refine fn1N_of pl29 (by kernel_rfl) Tryz.call29 Tryz.func29 rfl (by kernel_rfl) rfl [] (by kernel_rfl) fun Q hQ => ?_
  refine runW ?_
  refine callW [some 0, some 1] [] (putVar_fn (L := L) (n := T) (by omega) (by omega)) ?_
  have e : L ++ cmB k a b l T = L ++ varB T ++ rwsB k a b l := by unfold cmB; rw [List.append_assoc]
  rw [e] at hQ
  have hml : (L ++ varB T).length < 1000000050 := by rw [List.length_append]; omega
  generalize L ++ varB T = M at *
  clear e hvl
  refine runW ?_
  refine LoopV_of (X := Nat) (st := fun i => ([(1, .ref 0 0 0 0), (16, .row 3 (l.map (rwP k a b C))), (17, .lit (.int .i64 (l.length : Int))), (18, .lit (.int .i64 (i : Int)))], [some (wrC 2 (M ++ rwsB k a b (l.take i))), none, some (wrR (M ++ rwsB k a b (l.take i)))]))
    (inv := fun i => i ≤ l.length) (m := fun i => l.length - i) 0 [some 0, some 1, some 2] rfl (by simp only [List.take_zero, rwsB, List.flatMap_nil, List.append_nil]; (simp (disch := (first | omega | (simp only [lnA, List.length_map, List.length_range, true_and, and_true]; (try omega); done) | fail)) only [go_sem, Int.reduceEq, Int.reduceToNat, Nat.reduceAdd, Nat.reduceMul, Nat.reduceEqDiff, ↓reduceIte, true_and, and_true, and_self, List.drop_zero, List.take_length, Nat.le_refl, V.lit.injEq, Value.int.injEq, Value.bool.injEq]; try (first | omega | (simp; done) | (simp; omega)))) (by simp (disch := (first | omega | (simp only [lnA, List.length_map, List.length_range, true_and, and_true]; (try omega); done) | fail)) only [go_sem, Int.reduceEq, Int.reduceToNat, Nat.reduceAdd, Nat.reduceMul, Nat.reduceEqDiff, ↓reduceIte, true_and, and_true, and_self, List.drop_zero, List.take_length, Nat.le_refl, V.lit.injEq, Value.int.injEq, Value.bool.injEq]; try (first | omega | (simp; done) | (simp; omega))) (Nat.zero_le _) ?_
  intro i hi
  by_cases hil : i < l.length
  · have hgi : l[i]? = some l[i] := List.getElem?_eq_getElem hil
    have hget : l.getD i default = l[i] := by rw [List.getD_eq_getElem?_getD, hgi]; rfl
    have htk := rwsB_take (k := k) (a := a) (b := b) hgi
    have hok := hl l[i] (List.getElem_mem hil)
    have hsl := rwsB_len (l := l.take i) fun x hx => hl x (List.mem_of_mem_take hx)
    have hsl2 : (l.take i).length * (122 + C * wd k a b) ≤ 4 * (122 + 64 * 16) := Nat.mul_le_mul (by rw [List.length_take]; omega) (Nat.add_le_add_left (Nat.mul_le_mul hC.2 hwd.2) _)
    have hm2 : (M ++ rwsB k a b (l.take i)).length < 1000100050 := by rw [List.length_append]; omega
    have e2 : M ++ rwsB k a b (l.take (i + 1)) = M ++ rwsB k a b (l.take i) ++ numBits l[i].1 61 ++ numBits l[i].2.1 61 ++ wbits (wd k a b) (l[i].2.2.map (nuO k a b)) := by rw [htk]; simp
    clear htk hsl hsl2 hgi
    generalize l[i] = x at *
    generalize M ++ rwsB k a b (l.take i) = M1 at *
    obtain ⟨o1, o2, o3, o4⟩ := hok
    have n1 := num_fn (L := M1) (n := x.1) (m := 61) (by omega) (by omega) (by decide) (by decide) (by show x.1 < 2 ^ 61; omega)
    have n2 := num_fn (L := M1 ++ numBits x.1 61) (n := x.2.1) (m := 61) (by omega) (by rw [List.length_append, numBits_len]; omega) (by decide) (by decide) (by show x.2.1 < 2 ^ 61; omega)
    rw [show Int.toNat 61 = 61 from rfl] at n1 n2
    have wr := writeP_fn (n := C) (w := wd k a b) (N := x.2.2.map (nuO k a b)) (L := M1 ++ numBits x.1 61 ++ numBits x.2.1 61) (by omega) ⟨hwd.1, by omega⟩ (by rw [List.length_map]; exact o3) (fun y hy => by
      obtain ⟨s, _, rfl⟩ := List.mem_map.1 hy
      exact nuO_lt k a b s) (by rw [List.length_append, List.length_append, numBits_len, numBits_len]; omega)
    rw [← e2] at wr
    simp (maxSteps := 1000000) (disch := (first | omega | (simp only [lnA, List.length_map, List.length_range, true_and, and_true]; (try omega); done) | fail)) only [go_sem, hget, Int.reduceEq, Int.reduceToNat, Nat.reduceAdd, Nat.reduceMul, Nat.reduceEqDiff, ↓reduceIte]
    refine callW [some 0, some 2] [] (n1) ?_
    refine runW ?_
    refine callW [some 0, some 4] [] (n2) ?_
    refine runW ?_
    refine callW [some 0, some 5] [] (wr) ?_
    refine runW ?_
    refine nextW (i + 1) [some 0, some 1, some 6] hil (by omega)
  · obtain rfl : i = l.length := by omega
    rw [List.take_length]
    refine runW ?_
    exact endW [some 0, some 1, some 2] hQ
end Go.Proofs.YteookgjmohokiaaGreat
