import Derived.Test.YtpkfddfkacijoaaGreatDoorOg
import Derived.Test.YtpkfddfkacijoaaGreatDoorVx
namespace Go.Proofs.YtpkfddfkacijoaaGreatDoor
open Go.Eng Go.Vx
set_option linter.unusedSimpArgs false
set_option linter.unusedVariables false
set_option maxRecDepth 100000
def rdP (B : List Int) (p : Nat) : V := .rref 2 [[.row 1 (B.map (ie .u8)), .lit (.int .i64 (p : Int))]] 0 0
attribute [go_sem] rdP
theorem leftP_fn {B : List Int} {p : Nat} (hB : B.length ≤ 1099511627776) (hp : p ≤ 8 * B.length) : Fn1 Tryz.prog 20 [rdP B p] [] (.lit (.int .i64 ((8 * B.length - p : Nat) : Int))) [] := by
 refine fn1N_of pl20 (by kernel_rfl) Tryz.call20 Tryz.func20 rfl (by kernel_rfl) rfl [.tmp 2] (by kernel_rfl) fun Q hQ => ?_
 refine runW ?_
 rw [show ((8 : Int) * (B.length : Int) - (p : Int)) = ((8 * B.length - p : Nat) : Int) by omega]
 exact endW [] hQ
set_option maxHeartbeats 4000000 in
theorem swrite_fn {M D S : Nat} {st : SS} {L : List Bool} (hM : M ≤ 16) (hD : D ≤ 4) (hX : st.1.length ≤ 256) (hc : ∀ c ∈ st.1, c.1 < 2 ^ M ∧ c.2 < 2 ^ D) (hs : 1 ≤ st.2.1 ∧ st.2.1 ≤ 8) (hL : L.length < 1000000000) :
  Fn1 Tryz.prog 24 [.ref 0 0 0 0, .ref 1 0 0 0] [some (saC M D S st), some (wrC 2 L), some (wrR L)] (.tup []) [some (saC M D S st), some (wrC 3 (L ++ sacB M D st)), none, some (wrR (L ++ sacB M D st))] := by
 obtain ⟨cs, s, f⟩ := st
 dsimp only at hX hc hs
 have n1 := num_fn (L := L) (n := s - 1) (m := 3) (by omega) (by omega) (by decide) (by decide) (by show s - 1 < 2 ^ 3; omega)
 have b1 := bit_fn (L := L ++ numBits (s - 1) 3) (x := f) (by rw [List.length_append, numBits_len]; omega)
 rw [show Int.toNat 3 = 3 from rfl] at n1
 have hs1 : (s : Int) - 1 = ((s - 1 : Nat) : Int) := by omega
 have e : L ++ sacB M D (cs, s, f) = L ++ numBits (s - 1) 3 ++ [f] ++ scB M D cs := by simp [sacB]
 have hl : (L ++ numBits (s - 1) 3 ++ [f]).length < 1000000010 := by rw [List.length_append, List.length_append, numBits_len, List.length_singleton]; omega
 have hpM : 2 ^ M ≤ 2 ^ 16 := Nat.pow_le_pow_right (by decide) hM
 have hpD : 2 ^ D ≤ 2 ^ 4 := Nat.pow_le_pow_right (by decide) hD
 rw [e]
 clear e
 refine fn1N_of pl24 (by kernel_rfl) Tryz.call24 Tryz.func24 rfl (by kernel_rfl) rfl [] (by kernel_rfl) fun Q hQ => ?_
 simp (maxSteps := 1000000) (disch := (first | omega | (simp only [lnA, List.length_map, List.length_range, true_and, and_true]; (try omega); done) | fail)) only [go_sem, hs1, Int.reduceEq, Int.reduceToNat, Nat.reduceAdd, Nat.reduceMul, Nat.reduceEqDiff, ↓reduceIte]
 refine callW [some 1, some 2] [] (n1) ?_
 refine runW ?_
 refine callW [some 1, some 3] [] (b1) ?_
 generalize L ++ numBits (s - 1) 3 ++ [f] = Q0 at *
 refine runW ?_
 refine LoopV_of (X := Nat) (st := fun i => ([(0, .ref 0 0 0 0), (1, .ref 1 0 0 0), (23, .row 2 (cs.map cV)), (24, .lit (.int .i64 (cs.length : Int))), (25, .lit (.int .i64 (i : Int)))], [some (saC M D S (cs, s, f)), some (wrC 3 (Q0 ++ scB M D (cs.take i))), none, some (wrR (Q0 ++ scB M D (cs.take i)))]))
  (inv := fun i => i ≤ cs.length) (m := fun i => cs.length - i) 0 [some 0, some 1, some 2, some 4] rfl (by simp only [List.take_zero, scB, List.flatMap_nil, List.append_nil]; (simp (disch := (first | omega | (simp only [lnA, List.length_map, List.length_range, true_and, and_true]; (try omega); done) | fail)) only [go_sem, Int.reduceEq, Int.reduceToNat, Nat.reduceAdd, Nat.reduceMul, Nat.reduceEqDiff, ↓reduceIte, true_and, and_true, and_self, List.drop_zero, List.take_length, Nat.le_refl, V.lit.injEq, Value.int.injEq, Value.bool.injEq]; try (first | omega | (simp; done) | (simp; omega)))) (by simp (disch := (first | omega | (simp only [lnA, List.length_map, List.length_range, true_and, and_true]; (try omega); done) | fail)) only [go_sem, Int.reduceEq, Int.reduceToNat, Nat.reduceAdd, Nat.reduceMul, Nat.reduceEqDiff, ↓reduceIte, true_and, and_true, and_self, List.drop_zero, List.take_length, Nat.le_refl, V.lit.injEq, Value.int.injEq, Value.bool.injEq]; try (first | omega | (simp; done) | (simp; omega))) (Nat.zero_le _) ?_
 intro i hi
 by_cases hil : i < cs.length
 ·
  have hgi : cs[i]? = some cs[i] := List.getElem?_eq_getElem hil
  have hget : cs.getD i default = cs[i] := by rw [List.getD_eq_getElem?_getD, hgi]; rfl
  have htk := scB_take (M := M) (D := D) hgi
  have hcx := hc cs[i] (List.getElem_mem hil)
  have hsl := scB_len M D (cs.take i)
  have hsl2 : (cs.take i).length * (M + D) ≤ 256 * 20 := Nat.mul_le_mul (by rw [List.length_take]; omega) (by omega)
  have hml : (Q0 ++ scB M D (cs.take i)).length < 1000010010 := by rw [List.length_append]; omega
  have e2 : Q0 ++ scB M D (cs.take (i + 1)) = Q0 ++ scB M D (cs.take i) ++ numBits cs[i].1 M ++ numBits cs[i].2 D := by rw [htk]; simp
  clear htk hsl hsl2 hgi
  generalize cs[i] = x at *
  generalize Q0 ++ scB M D (cs.take i) = M1 at *
  have n2 := num_fn (L := M1) (n := x.1) (m := (M : Int)) (by omega) (by omega) (by omega) (by omega) (by rw [Int.toNat_natCast]; exact hcx.1)
  have n3 := num_fn (L := M1 ++ numBits x.1 M) (n := x.2) (m := (D : Int)) (by omega) (by rw [List.length_append, numBits_len]; omega) (by omega) (by omega) (by rw [Int.toNat_natCast]; exact hcx.2)
  rw [Int.toNat_natCast] at n2 n3
  simp (maxSteps := 1000000) (disch := (first | omega | (simp only [lnA, List.length_map, List.length_range, true_and, and_true]; (try omega); done) | fail)) only [go_sem, hget, Int.reduceEq, Int.reduceToNat, Nat.reduceAdd, Nat.reduceMul, Nat.reduceEqDiff, ↓reduceIte]
  refine callW [some 1, some 3] [] (n2) ?_
  refine runW ?_
  refine callW [some 1, some 5] [] (n3) ?_
  rw [← e2]
  refine runW ?_
  refine nextW (i + 1) [some 0, some 1, some 2, some 6] hil (by omega)
 ·
  obtain rfl : i = cs.length := by omega
  rw [List.take_length]
  refine runW ?_
  exact endW [some 0, some 1, some 2, some 3] hQ
theorem snewO_fn {M D S n : Nat} (h : goodS M D S) (hn : 1 ≤ n ∧ n ≤ 256) : Fn1 Tryz.prog 34 [pA M D S, .lit (.int .i64 (n : Int))] [] (.tup [.ref 0 0 0 0, .lit (.int .i64 0)])
  [some (saO M D S 1 n 1 false), some (.row 2 ((List.replicate n ((0 : Nat), (0 : Nat))).map cV))] := by
 have hc := scheck_fn h
 have w := swithin_fn (n := (n : Int)) (m := 256)
 rw [decide_eq_true (show (1 : Int) ≤ (n : Int) ∧ (n : Int) ≤ 256 by omega)] at w
 have e : (List.replicate n ((0 : Nat), (0 : Nat))).map cV = zrow [.int .i64 0, .int .i64 0] n := by rw [List.map_replicate]; rfl
 have el : (zrow [Value.int IntKind.i64 0, Value.int IntKind.i64 0] n).length = n := by unfold zrow; rw [List.length_replicate]
 refine fn1N_of pl34 (by kernel_rfl) Tryz.call34 Tryz.func34 rfl (by kernel_rfl) rfl [.tmp 4, .tmp 5] (by kernel_rfl) fun Q hQ => ?_
 unfold saO at hQ
 rw [e, show ((1 : Nat) : Int) = 1 from rfl] at hQ
 refine runW ?_
 refine callV0 (hc) rfl rfl ?_
 refine runW ?_
 refine callV0 (w) rfl rfl ?_
 refine runW ?_
 generalize zrow [Value.int IntKind.i64 0, Value.int IntKind.i64 0] n = zr at *
 exact endW [some 2, some 1] hQ
def srV (r : Option SS × Nat × Int) : V := match r.1 with
 | some _ => .tup [.ref 1 0 0 0, .lit (.int .i64 0)]
 | none => .tup [.lit (.pointer none), .lit (.int .i64 r.2.2)]
def srS (M D S : Nat) (B : List Int) (r : Option SS × Nat × Int) : St := match r.1 with
 | some x => [some (rdC B r.2.1), some (saC M D S x)]
 | none => [some (rdC B r.2.1)]
set_option maxHeartbeats 8000000 in
theorem sread_fn {M D S n p : Nat} {B : List Int} (h : goodS M D S) (hn : 1 ≤ n ∧ n ≤ 256) (hI : IsB B) (hB : B.length ≤ 1099511627776) (hp : p ≤ 8 * B.length) :
  Fn1 Tryz.prog 26 [.ref 0 0 0 0, pA M D S, .lit (.int .i64 (n : Int))] [some (rdC B p)] (srV (srR (bitsOf B) M D S n p)) (srS M D S B (srR (bitsOf B) M D S n p)) := by
 have hnw := snewO_fn h hn
 have hbl := bitsOf_len B
 have hM : 1 ≤ M ∧ M ≤ 16 := by have := h.1; omega
 have hD : 1 ≤ D ∧ D ≤ 4 := by have := h.2.1; omega
 have hS : 1 ≤ S ∧ S ≤ 8 := by have := h.2.2; omega
 have hz : (List.replicate n ((0 : Nat), (0 : Nat))).length = n := List.length_replicate
 have lf := left_fn (B := B) (p := p) hB hp
 refine fn1N_of pl26 (by kernel_rfl) Tryz.call26 Tryz.func26 rfl (by kernel_rfl) rfl [.tmp 6, .tmp 7] (by kernel_rfl) fun Q hQ => ?_
 unfold srR at hQ
 generalize hz0 : List.replicate n ((0 : Nat), (0 : Nat)) = z0 at *
 refine runW ?_
 refine callW [] [] (hnw) ?_
 refine runW ?_
 refine callW [some 0] [] (lf) ?_
 by_cases h4 : p + 4 ≤ (bitsOf B).length
 ·
  rw [if_pos h4] at hQ
  have r3 := brnum_fn (B := B) (p := p) (w := 3) hI hB (by decide) (by omega)
  have r1 := rbitX_fn (B := B) (p := p + 3) hI hB (by omega)
  rw [rX_one (by omega)] at r1
  dsimp only at r1
  rw [show decide (((bitsOf B).getD (p + 3) false).toNat = 1) = (bitsOf B).getD (p + 3) false by cases (bitsOf B).getD (p + 3) false <;> rfl] at r1
  have hk : numOf (((bitsOf B).drop p).take 3) < 8 := numOf_take_lt _ 3
  rw [show ((3 : Nat) : Int) = 3 from rfl] at r3
  generalize numOf (((bitsOf B).drop p).take 3) = s0 at *
  generalize (bitsOf B).getD (p + 3) false = fl at *
  have hs1 : (s0 : Int) + 1 = ((s0 + 1 : Nat) : Int) := by omega
  by_cases c1 : S < s0 + 1
  ·
   rw [if_pos (.inl c1)] at hQ
   unfold srV srS at hQ
   dsimp only at hQ
   refine runW ?_
   refine callW [some 0] [] (r3) ?_
   simp (maxSteps := 1000000) (disch := (first | omega | (simp only [lnA, List.length_map, List.length_range, true_and, and_true]; (try omega); done) | fail)) only [go_sem, hs1, Int.reduceEq, Int.reduceToNat, Nat.reduceAdd, Nat.reduceMul, Nat.reduceEqDiff, ↓reduceIte]
   refine callW [some 0] [] (r1) ?_
   simp (maxSteps := 1000000) (disch := (first | omega | (simp only [lnA, List.length_map, List.length_range, true_and, and_true]; (try omega); done) | fail)) only [go_sem, hs1, Int.reduceEq, Int.reduceToNat, Nat.reduceAdd, Nat.reduceMul, Nat.reduceEqDiff, ↓reduceIte]
   exact endW [some 0] hQ
  ·
   by_cases c2 : fl = true ∧ s0 + 1 < S
   ·
    rw [if_pos (.inr c2)] at hQ
    obtain ⟨rfl, c2⟩ := c2
    unfold srV srS at hQ
    dsimp only at hQ
    refine runW ?_
    refine callW [some 0] [] (r3) ?_
    simp (maxSteps := 1000000) (disch := (first | omega | (simp only [lnA, List.length_map, List.length_range, true_and, and_true]; (try omega); done) | fail)) only [go_sem, hs1, Int.reduceEq, Int.reduceToNat, Nat.reduceAdd, Nat.reduceMul, Nat.reduceEqDiff, ↓reduceIte]
    refine callW [some 0] [] (r1) ?_
    simp (maxSteps := 1000000) (disch := (first | omega | (simp only [lnA, List.length_map, List.length_range, true_and, and_true]; (try omega); done) | fail)) only [go_sem, hs1, Int.reduceEq, Int.reduceToNat, Nat.reduceAdd, Nat.reduceMul, Nat.reduceEqDiff, ↓reduceIte]
    exact endW [some 0] hQ
   ·
    rw [if_neg (fun h => h.elim c1 c2)] at hQ
    refine runW ?_
    refine callW [some 0] [] (r3) ?_
    simp (maxSteps := 1000000) (disch := (first | omega | (simp only [lnA, List.length_map, List.length_range, true_and, and_true]; (try omega); done) | fail)) only [go_sem, hs1, Int.reduceEq, Int.reduceToNat, Nat.reduceAdd, Nat.reduceMul, Nat.reduceEqDiff, ↓reduceIte]
    refine callW [some 0] [] (r1) ?_
    cases hfl : fl with
    | true =>
     subst hfl
     have c3 : ¬ s0 + 1 < S := fun h => c2 ⟨rfl, h⟩
     simp (maxSteps := 1000000) (disch := (first | omega | (simp only [lnA, List.length_map, List.length_range, true_and, and_true]; (try omega); done) | fail)) only [go_sem, hs1, Int.reduceEq, Int.reduceToNat, Nat.reduceAdd, Nat.reduceMul, Nat.reduceEqDiff, ↓reduceIte]
     refine loopW (X := Nat × List Cell × Nat) (st := fun y => ([(0, .ref 0 0 0 0), (4, .ref 3 0 0 0), (8, .ref 1 0 0 0), (74, .lit (.int .i64 (n : Int))), (75, .lit (.int .i64 (y.1 : Int)))],
       [some (rdC B y.2.2), some (saO M D S 2 n (s0 + 1) true), some (.row 2 (y.2.1.map cV)), some (.cells [.lit (.int .i64 (M : Int)), .lit (.int .i64 (D : Int)), .lit (.int .i64 (S : Int))])]))
      (inv := fun y => y.1 ≤ n ∧ y.2.1.length = n ∧ y.2.2 ≤ (bitsOf B).length ∧ rdS (bitsOf B) M D n (p + 4) = ((rdS (bitsOf B) M D (n - y.1) y.2.2).1.map (y.2.1.take y.1 ++ ·), (rdS (bitsOf B) M D (n - y.1) y.2.2).2)) (m := fun y => n - y.1)
      (0, z0, p + 4) [some 0, some 2, some 3, some 1] ⟨Nat.zero_le _, hz, h4, by simp⟩ ?_
     rintro ⟨i, Y, q⟩ ⟨hi, hY, hq, hr⟩
     dsimp only at hi hY hq hr ⊢
     have lq := leftP_fn (B := B) (p := q) hB (by omega)
     by_cases hil : i < n
     ·
      obtain ⟨c, hc⟩ : ∃ c, n - i = c + 1 := ⟨n - i - 1, by omega⟩
      rw [hc] at hr
      by_cases h2 : q + (M + D) ≤ (bitsOf B).length
      ·
       have ra := brnum_fn (B := B) (p := q) (w := M) hI hB (by omega) (by omega)
       have rb := brnum_fn (B := B) (p := q + M) (w := D) hI hB (by omega) (by omega)
       have ka : numOf (((bitsOf B).drop q).take M) < 2 ^ M := numOf_take_lt _ M
       have kb : numOf (((bitsOf B).drop (q + M)).take D) < 2 ^ D := numOf_take_lt _ D
       have hpM : 2 ^ M ≤ 2 ^ 16 := Nat.pow_le_pow_right (by decide) hM.2
       have hpD : 2 ^ D ≤ 2 ^ 4 := Nat.pow_le_pow_right (by decide) hD.2
       rw [rdS_succ] at hr
       rw [if_pos h2] at hr
       generalize numOf (((bitsOf B).drop q).take M) = a at *
       generalize numOf (((bitsOf B).drop (q + M)).take D) = b at *
       generalize 2 ^ M = pM at *
       generalize 2 ^ D = pD at *
       by_cases c5 : a = 0 ∧ 0 < b
       ·
        rw [if_pos c5] at hr
        rw [hr] at hQ
        unfold srV srS at hQ
        dsimp only [Option.map] at hQ
        obtain ⟨rfl, c6⟩ := c5
        refine runW ?_
        refine callT (lq) ?_
        refine runW ?_
        refine callW [some 0] [] (ra) ?_
        refine runW ?_
        refine callW [some 0] [] (rb) ?_
        refine runW ?_
        exact endW [some 0] hQ
       ·
        rw [if_neg c5] at hr
        have hset : (Y.map cV).set i [.lit (.int .i64 (a : Int)), .lit (.int .i64 (b : Int))] = (Y.set i (a, b)).map cV := by rw [List.map_set]; rfl
        have ht : (Y.set i (a, b)).take (i + 1) = Y.take i ++ [(a, b)] := by
         rw [List.take_succ_eq_append_getElem (by rw [List.length_set]; omega), List.take_set_of_le (Nat.le_refl i)]
         simp
        have hnx : ((rdS (bitsOf B) M D c (q + M + D)).1.map ((Y.set i (a, b)).take (i + 1) ++ ·), (rdS (bitsOf B) M D c (q + M + D)).2) = rdS (bitsOf B) M D n (p + 4) := by
         rw [hr, ht, Option.map_map]
         congr 2
         funext l
         simp
        rw [← show n - (i + 1) = c by omega] at hnx
        by_cases c6 : a = 0
        ·
         have c7 : b = 0 := by omega
         subst c6 c7
         refine runW ?_
         refine callT (lq) ?_
         refine runW ?_
         refine callW [some 0] [] (ra) ?_
         refine runW ?_
         refine callW [some 0] [] (rb) ?_
         simp (maxSteps := 1000000) (disch := (first | omega | (simp only [lnA, List.length_map, List.length_range, true_and, and_true]; (try omega); done) | fail)) only [go_sem, hset, Int.reduceEq, Int.reduceToNat, Nat.reduceAdd, Nat.reduceMul, Nat.reduceEqDiff, ↓reduceIte]
         refine nextW (i + 1, Y.set i (0, 0), q + M + D) [some 0, some 1, some 2, some 3] ⟨hil, by rw [List.length_set]; exact hY, by dsimp only; omega, hnx.symm⟩ (by dsimp only; omega)
        ·
         refine runW ?_
         refine callT (lq) ?_
         refine runW ?_
         refine callW [some 0] [] (ra) ?_
         refine runW ?_
         refine callW [some 0] [] (rb) ?_
         simp (maxSteps := 1000000) (disch := (first | omega | (simp only [lnA, List.length_map, List.length_range, true_and, and_true]; (try omega); done) | fail)) only [go_sem, hset, Int.reduceEq, Int.reduceToNat, Nat.reduceAdd, Nat.reduceMul, Nat.reduceEqDiff, ↓reduceIte]
         refine nextW (i + 1, Y.set i (a, b), q + M + D) [some 0, some 1, some 2, some 3] ⟨hil, by rw [List.length_set]; exact hY, by dsimp only; omega, hnx.symm⟩ (by dsimp only; omega)
      ·
       rw [rdS_succ] at hr
       rw [if_neg h2] at hr
       rw [hr] at hQ
       unfold srV srS at hQ
       dsimp only [Option.map] at hQ
       refine runW ?_
       refine callT (lq) ?_
       refine runW ?_
       exact endW [some 0] hQ
     ·
      obtain rfl : i = n := by omega
      rw [Nat.sub_self, List.take_of_length_le (by omega)] at hr
      rw [hr, rdS_zero] at hQ
      unfold srV srS at hQ
      dsimp only [Option.map] at hQ
      rw [List.append_nil] at hQ
      refine runW ?_
      exact endW [some 0, some 1] hQ
    | false =>
     subst hfl
     simp (maxSteps := 1000000) (disch := (first | omega | (simp only [lnA, List.length_map, List.length_range, true_and, and_true]; (try omega); done) | fail)) only [go_sem, hs1, Int.reduceEq, Int.reduceToNat, Nat.reduceAdd, Nat.reduceMul, Nat.reduceEqDiff, ↓reduceIte]
     refine loopW (X := Nat × List Cell × Nat) (st := fun y => ([(0, .ref 0 0 0 0), (4, .ref 3 0 0 0), (8, .ref 1 0 0 0), (74, .lit (.int .i64 (n : Int))), (75, .lit (.int .i64 (y.1 : Int)))],
       [some (rdC B y.2.2), some (saO M D S 2 n (s0 + 1) false), some (.row 2 (y.2.1.map cV)), some (.cells [.lit (.int .i64 (M : Int)), .lit (.int .i64 (D : Int)), .lit (.int .i64 (S : Int))])]))
      (inv := fun y => y.1 ≤ n ∧ y.2.1.length = n ∧ y.2.2 ≤ (bitsOf B).length ∧ rdS (bitsOf B) M D n (p + 4) = ((rdS (bitsOf B) M D (n - y.1) y.2.2).1.map (y.2.1.take y.1 ++ ·), (rdS (bitsOf B) M D (n - y.1) y.2.2).2)) (m := fun y => n - y.1)
      (0, z0, p + 4) [some 0, some 2, some 3, some 1] ⟨Nat.zero_le _, hz, h4, by simp⟩ ?_
     rintro ⟨i, Y, q⟩ ⟨hi, hY, hq, hr⟩
     dsimp only at hi hY hq hr ⊢
     have lq := leftP_fn (B := B) (p := q) hB (by omega)
     by_cases hil : i < n
     ·
      obtain ⟨c, hc⟩ : ∃ c, n - i = c + 1 := ⟨n - i - 1, by omega⟩
      rw [hc] at hr
      by_cases h2 : q + (M + D) ≤ (bitsOf B).length
      ·
       have ra := brnum_fn (B := B) (p := q) (w := M) hI hB (by omega) (by omega)
       have rb := brnum_fn (B := B) (p := q + M) (w := D) hI hB (by omega) (by omega)
       have ka : numOf (((bitsOf B).drop q).take M) < 2 ^ M := numOf_take_lt _ M
       have kb : numOf (((bitsOf B).drop (q + M)).take D) < 2 ^ D := numOf_take_lt _ D
       have hpM : 2 ^ M ≤ 2 ^ 16 := Nat.pow_le_pow_right (by decide) hM.2
       have hpD : 2 ^ D ≤ 2 ^ 4 := Nat.pow_le_pow_right (by decide) hD.2
       rw [rdS_succ] at hr
       rw [if_pos h2] at hr
       generalize numOf (((bitsOf B).drop q).take M) = a at *
       generalize numOf (((bitsOf B).drop (q + M)).take D) = b at *
       generalize 2 ^ M = pM at *
       generalize 2 ^ D = pD at *
       by_cases c5 : a = 0 ∧ 0 < b
       ·
        rw [if_pos c5] at hr
        rw [hr] at hQ
        unfold srV srS at hQ
        dsimp only [Option.map] at hQ
        obtain ⟨rfl, c6⟩ := c5
        refine runW ?_
        refine callT (lq) ?_
        refine runW ?_
        refine callW [some 0] [] (ra) ?_
        refine runW ?_
        refine callW [some 0] [] (rb) ?_
        refine runW ?_
        exact endW [some 0] hQ
       ·
        rw [if_neg c5] at hr
        have hset : (Y.map cV).set i [.lit (.int .i64 (a : Int)), .lit (.int .i64 (b : Int))] = (Y.set i (a, b)).map cV := by rw [List.map_set]; rfl
        have ht : (Y.set i (a, b)).take (i + 1) = Y.take i ++ [(a, b)] := by
         rw [List.take_succ_eq_append_getElem (by rw [List.length_set]; omega), List.take_set_of_le (Nat.le_refl i)]
         simp
        have hnx : ((rdS (bitsOf B) M D c (q + M + D)).1.map ((Y.set i (a, b)).take (i + 1) ++ ·), (rdS (bitsOf B) M D c (q + M + D)).2) = rdS (bitsOf B) M D n (p + 4) := by
         rw [hr, ht, Option.map_map]
         congr 2
         funext l
         simp
        rw [← show n - (i + 1) = c by omega] at hnx
        by_cases c6 : a = 0
        ·
         have c7 : b = 0 := by omega
         subst c6 c7
         refine runW ?_
         refine callT (lq) ?_
         refine runW ?_
         refine callW [some 0] [] (ra) ?_
         refine runW ?_
         refine callW [some 0] [] (rb) ?_
         simp (maxSteps := 1000000) (disch := (first | omega | (simp only [lnA, List.length_map, List.length_range, true_and, and_true]; (try omega); done) | fail)) only [go_sem, hset, Int.reduceEq, Int.reduceToNat, Nat.reduceAdd, Nat.reduceMul, Nat.reduceEqDiff, ↓reduceIte]
         refine nextW (i + 1, Y.set i (0, 0), q + M + D) [some 0, some 1, some 2, some 3] ⟨hil, by rw [List.length_set]; exact hY, by dsimp only; omega, hnx.symm⟩ (by dsimp only; omega)
        ·
         refine runW ?_
         refine callT (lq) ?_
         refine runW ?_
         refine callW [some 0] [] (ra) ?_
         refine runW ?_
         refine callW [some 0] [] (rb) ?_
         simp (maxSteps := 1000000) (disch := (first | omega | (simp only [lnA, List.length_map, List.length_range, true_and, and_true]; (try omega); done) | fail)) only [go_sem, hset, Int.reduceEq, Int.reduceToNat, Nat.reduceAdd, Nat.reduceMul, Nat.reduceEqDiff, ↓reduceIte]
         refine nextW (i + 1, Y.set i (a, b), q + M + D) [some 0, some 1, some 2, some 3] ⟨hil, by rw [List.length_set]; exact hY, by dsimp only; omega, hnx.symm⟩ (by dsimp only; omega)
      ·
       rw [rdS_succ] at hr
       rw [if_neg h2] at hr
       rw [hr] at hQ
       unfold srV srS at hQ
       dsimp only [Option.map] at hQ
       refine runW ?_
       refine callT (lq) ?_
       refine runW ?_
       exact endW [some 0] hQ
     ·
      obtain rfl : i = n := by omega
      rw [Nat.sub_self, List.take_of_length_le (by omega)] at hr
      rw [hr, rdS_zero] at hQ
      unfold srV srS at hQ
      dsimp only [Option.map] at hQ
      rw [List.append_nil] at hQ
      refine runW ?_
      exact endW [some 0, some 1] hQ
 ·
  rw [if_neg h4] at hQ
  unfold srV srS at hQ
  dsimp only at hQ
  refine runW ?_
  exact endW [some 0] hQ
end Go.Proofs.YtpkfddfkacijoaaGreatDoor
