import Derived.Test.YteookgjmohokiaaGreatIm
namespace Go.Proofs.YteookgjmohokiaaGreat
open Go.Eng Go.Vx
set_option linter.unusedSimpArgs false
set_option linter.unusedVariables false
set_option maxRecDepth 100000
def itAP (k a b n : Nat) (l : List SR) : V := .agg [.lit (.int .i64 2), .lit (.int .i64 0), .lit (.int .i64 0), .lit (.int .i64 0), .lit (.int .i64 0), .lit (.int .i64 0), .lit (.bool false), caP k a b n (wd k a b) (packN (wd k a b) (l.map (nuO k a b))), .lit (.pointer none), .lit (.pointer none), .lit (.pointer none)]
def itSP (M D S : Nat) (st : SS) : V := .agg [.lit (.int .i64 3), .lit (.int .i64 0), .lit (.int .i64 0), .lit (.int .i64 0), .lit (.int .i64 0), .lit (.int .i64 0), .lit (.bool false), .lit (.pointer none), saP M D S st, .lit (.pointer none), .lit (.pointer none)]
def itCP (R C k a b : Nat) (l : List RW) (T : Nat) : V := .agg [.lit (.int .i64 4), .lit (.int .i64 0), .lit (.int .i64 0), .lit (.int .i64 0), .lit (.int .i64 0), .lit (.int .i64 0), .lit (.bool false), .lit (.pointer none), .lit (.pointer none), cmP R C k a b l T, .lit (.pointer none)]
def itMP (K P C : Nat) (X : List (Nat × Nat)) (T : Nat) : V := .agg [.lit (.int .i64 5), .lit (.int .i64 0), .lit (.int .i64 0), .lit (.int .i64 0), .lit (.int .i64 0), .lit (.int .i64 0), .lit (.bool false), .lit (.pointer none), .lit (.pointer none), .lit (.pointer none), amP (K : Int) (P : Int) (C : Int) X T]
attribute [go_sem] itAP itSP itCP itMP
theorem cmParamP_fn {R C k a b : Nat} {l : List RW} {T : Nat} : Fn1 Tryz.prog 51 [cmP R C k a b l T] [] (.agg [.lit (.int .i64 (R : Int)), .lit (.int .i64 (C : Int)), .lit (.int .i64 (k : Int)), .lit (.int .i64 (a : Int)), .lit (.int .i64 (b : Int))]) [] := by
  refine fn1N_of pl51 (by kernel_rfl) Tryz.call51 Tryz.func51 rfl (by kernel_rfl) rfl [.cell 2 105] (by kernel_rfl) fun Q hQ => ?_
  refine runW ?_
  exact endW [] hQ

def itL : V → List V
  | .agg l => l
  | _ => []
@[go_sem] theorem itL_eq {l : List V} : itL (.agg l) = l := (rfl)

theorem gAP_fn {k a b n : Nat} {l : List SR} : Fn1 Tryz.prog 41 [itAP k a b n l] [] (.lit (.bool true)) [] := by
  refine fn1N_of pl41 (by kernel_rfl) Tryz.call41 Tryz.func41 rfl (by kernel_rfl) rfl [.tmp 2] (by kernel_rfl) fun Q hQ => ?_
  refine runW ?_
  exact endW [] hQ
theorem ckAP_fn {k a b n : Nat} {l : List SR} : Fn1 Tryz.prog 18 [itAP k a b n l] [] (.lit (.int .i64 0)) [] := by
  have g := gAP_fn (k := k) (a := a) (b := b) (n := n) (l := l)
  refine fn1N_of pl18 (by kernel_rfl) Tryz.call18 Tryz.func18 rfl (by kernel_rfl) rfl [.tmp 2] (by kernel_rfl) fun Q hQ => ?_
  refine runW ?_
  refine callV0 (g) rfl rfl ?_
  refine runW ?_
  exact endW [] hQ

theorem gSP_fn {M D S : Nat} {st : SS} : Fn1 Tryz.prog 41 [itSP M D S st] [] (.lit (.bool true)) [] := by
  refine fn1N_of pl41 (by kernel_rfl) Tryz.call41 Tryz.func41 rfl (by kernel_rfl) rfl [.tmp 2] (by kernel_rfl) fun Q hQ => ?_
  refine runW ?_
  exact endW [] hQ
theorem ckSP_fn {M D S : Nat} {st : SS} : Fn1 Tryz.prog 18 [itSP M D S st] [] (.lit (.int .i64 0)) [] := by
  have g := gSP_fn (M := M) (D := D) (S := S) (st := st)
  refine fn1N_of pl18 (by kernel_rfl) Tryz.call18 Tryz.func18 rfl (by kernel_rfl) rfl [.tmp 2] (by kernel_rfl) fun Q hQ => ?_
  refine runW ?_
  refine callV0 (g) rfl rfl ?_
  refine runW ?_
  exact endW [] hQ

theorem gCP_fn {R C k a b T : Nat} {l : List RW} : Fn1 Tryz.prog 41 [itCP R C k a b l T] [] (.lit (.bool true)) [] := by
  refine fn1N_of pl41 (by kernel_rfl) Tryz.call41 Tryz.func41 rfl (by kernel_rfl) rfl [.tmp 2] (by kernel_rfl) fun Q hQ => ?_
  refine runW ?_
  exact endW [] hQ
theorem ckCP_fn {R C k a b T : Nat} {l : List RW} : Fn1 Tryz.prog 18 [itCP R C k a b l T] [] (.lit (.int .i64 0)) [] := by
  have g := gCP_fn (R := R) (C := C) (k := k) (a := a) (b := b) (T := T) (l := l)
  refine fn1N_of pl18 (by kernel_rfl) Tryz.call18 Tryz.func18 rfl (by kernel_rfl) rfl [.tmp 2] (by kernel_rfl) fun Q hQ => ?_
  refine runW ?_
  refine callV0 (g) rfl rfl ?_
  refine runW ?_
  exact endW [] hQ

theorem gMP_fn {K P C T : Nat} {X : List (Nat × Nat)} : Fn1 Tryz.prog 41 [itMP K P C X T] [] (.lit (.bool true)) [] := by
  refine fn1N_of pl41 (by kernel_rfl) Tryz.call41 Tryz.func41 rfl (by kernel_rfl) rfl [.tmp 2] (by kernel_rfl) fun Q hQ => ?_
  refine runW ?_
  exact endW [] hQ
theorem ckMP_fn {K P C T : Nat} {X : List (Nat × Nat)} : Fn1 Tryz.prog 18 [itMP K P C X T] [] (.lit (.int .i64 0)) [] := by
  have g := gMP_fn (K := K) (P := P) (C := C) (T := T) (X := X)
  refine fn1N_of pl18 (by kernel_rfl) Tryz.call18 Tryz.func18 rfl (by kernel_rfl) rfl [.tmp 2] (by kernel_rfl) fun Q hQ => ?_
  refine runW ?_
  refine callV0 (g) rfl rfl ?_
  refine runW ?_
  exact endW [] hQ

theorem numsAP_fn {k a b n : Nat} {l : List SR} : Fn1 Tryz.prog 24 [itAP k a b n l] [] (.row 1 ((nl [k, a, b, n]).map (ie .i64))) [] := by
  have o := ofReg_fn (k := k) (a := a) (b := b)
  have pa := cParam_fn (k := k) (a := a) (b := b) (n := n) (w := wd k a b) (X := packN (wd k a b) (l.map (nuO k a b)))
  have vl := vlen_fn (n := n) (w := wd k a b) (L := words (nwd n (wd k a b)) (packN (wd k a b) (l.map (nuO k a b))))
  simp only [nl, List.map_cons, List.map_nil, ie] at o
  refine fn1N_of pl24 (by kernel_rfl) Tryz.call24 Tryz.func24 rfl (by kernel_rfl) rfl [.tmp 2] (by kernel_rfl) fun Q hQ => ?_
  simp only [nl, List.map_cons, List.map_nil, ie] at hQ
  refine runW ?_
  refine callV0 (pa) rfl rfl ?_
  refine runW ?_
  refine callF (o) ?_
  refine runW ?_
  refine callV0 (vl) rfl rfl ?_
  refine runW ?_
  exact endW [] hQ
theorem numsSP_fn {M D S : Nat} {st : SS} : Fn1 Tryz.prog 24 [itSP M D S st] [] (.row 1 ((nl [M, D, S, st.1.length]).map (ie .i64))) [] := by
  have pa := sParamP_fn (M := M) (D := D) (S := S) (st := st)
  have ln := sLenP_fn (M := M) (D := D) (S := S) (st := st)
  refine fn1N_of pl24 (by kernel_rfl) Tryz.call24 Tryz.func24 rfl (by kernel_rfl) rfl [.tmp 2] (by kernel_rfl) fun Q hQ => ?_
  simp only [nl, List.map_cons, List.map_nil, ie] at hQ
  refine runW ?_
  refine callV0 (pa) rfl rfl ?_
  refine runW ?_
  refine callV0 (ln) rfl rfl ?_
  refine runW ?_
  exact endW [] hQ
theorem numsMP_fn {K P C : Nat} {X : List (Nat × Nat)} {T : Nat} : Fn1 Tryz.prog 24 [itMP K P C X T] [] (.row 1 ((nl [K, P, C]).map (ie .i64))) [] := by
  have pa := mParamP_fn (K := (K : Int)) (P := (P : Int)) (C := (C : Int)) (X := X) (N := T)
  refine fn1N_of pl24 (by kernel_rfl) Tryz.call24 Tryz.func24 rfl (by kernel_rfl) rfl [.tmp 2] (by kernel_rfl) fun Q hQ => ?_
  simp only [nl, List.map_cons, List.map_nil, ie] at hQ
  refine runW ?_
  refine callV0 (pa) rfl rfl ?_
  refine runW ?_
  exact endW [] hQ
theorem numsCP_fn {R C k a b : Nat} {l : List RW} {T : Nat} : Fn1 Tryz.prog 24 [itCP R C k a b l T] [] (.row 1 ((nl [R, C, k, a, b]).map (ie .i64))) [] := by
  have o := ofReg_fn (k := k) (a := a) (b := b)
  have pa := cmParamP_fn (R := R) (C := C) (k := k) (a := a) (b := b) (l := l) (T := T)
  simp only [nl, List.map_cons, List.map_nil, ie] at o
  refine fn1N_of pl24 (by kernel_rfl) Tryz.call24 Tryz.func24 rfl (by kernel_rfl) rfl [.tmp 2] (by kernel_rfl) fun Q hQ => ?_
  simp only [nl, List.map_cons, List.map_nil, ie] at hQ
  refine runW ?_
  refine callV0 (pa) rfl rfl ?_
  refine runW ?_
  refine callF (o) ?_
  refine runW ?_
  exact endW [] hQ

set_option maxHeartbeats 2000000 in
theorem encR_fn {k a b : Nat} {s : Nat × Nat × Bool} (h : goodN k a b) (w : wellN k a b s) : Fn1 Tryz.prog 12 [itR k a b s] [] (.tup [.sl 0 1 0 ((pkb (hdB 1 ++ gms [k, a, b] ++ rgB k a b s)).length + 4), .lit (.int .i64 0)]) [some (.row 1 ((nl (sealN (pkb (hdB 1 ++ gms [k, a, b] ++ rgB k a b s)))).map (ie .u8)))] := by
  have ck := ckReg_fn h w
  have ns := numsR_fn (k := k) (a := a) (b := b) (s := s)
  have hN3 : ([k, a, b] : List Nat).length = 3 := rfl
  have hNm : ∀ x ∈ ([k, a, b] : List Nat), x ≤ 1048576 := by
    intro x hx
    simp only [List.mem_cons, List.not_mem_nil, or_false] at hx
    rcases h with h | h | h | h <;> omega
  have n1 := num_fn (L := []) (n := 1) (m := 4) (by decide) (by decide) (by decide) (by decide) (by decide)
  have n2 := num_fn (L := numBits 1 4) (n := 1) (m := 3) (by decide) (by rw [numBits_len]; decide) (by decide) (by decide) (by decide)
  rw [List.nil_append] at n1
  generalize [k, a, b] = N at *
  have hnl := nl_len N
  have hgl := gms_len hNm
  have hhl := hdB_len 1
  have hrl := rgB_len k a b s
  have hwl := w_le h
  have wr0 := fun (L : List Bool) (hL : L.length < 1099511600000) => rWrite_fn (L := L) h w hL
  have hbl : (hdB 1 ++ gms N ++ rgB k a b s).length ≤ 9000 := by
    rw [List.length_append, List.length_append]
    omega
  have hg0 : (hdB 1 ++ gms N).length < 1000000 := by rw [List.length_append]; omega
  have wr := wr0 (hdB 1 ++ gms N) (by omega)
  clear wr0
  have e0 : numBits 1 4 ++ numBits 1 3 = hdB 1 ++ gms (N.take 0) := by
    rw [List.take_zero]
    show _ = (numBits 1 4 ++ numBits 1 3) ++ []
    rw [List.append_nil]
  change Fn1 _ _ _ _ _ [some (wrC 2 (numBits 1 4 ++ numBits 1 3)), none, some (wrR (numBits 1 4 ++ numBits 1 3))] at n2
  rw [e0] at n2
  refine fn1N_of pl12 (by kernel_rfl) Tryz.call12 Tryz.func12 rfl (by kernel_rfl) rfl [.tmp 2, .tmp 3] (by kernel_rfl) fun Q hQ => ?_
  refine runW ?_
  refine callV0 (ck) rfl rfl ?_
  refine runW ?_
  refine callW [some 1, none] [] (n1) ?_
  refine runW ?_
  refine callW [some 1, some 3] [] (n2) ?_
  refine runW ?_
  refine callV0 (ns) rfl rfl ?_
  refine runW ?_
  refine loopW (X := Nat) (st := fun i => ([(1, .ref 0 0 0 0), (5, .ref 1 0 0 0), (23, .row 1 ((nl N).map (ie .i64))), (24, .lit (.int .i64 3)), (25, .lit (.int .i64 (i : Int)))],
      [some (.cells (itL (itR k a b s))), some (wrC 2 (hdB 1 ++ gms (N.take i))), some (wrR (hdB 1 ++ gms (N.take i)))]))
    (inv := fun i => i ≤ 3) (m := fun i => 3 - i) 0 [some 0, some 1, some 4] (Nat.zero_le _) ?_
  intro i hi
  by_cases hil : i < 3
  · have hg := nl_get N i
    have hx := getD_leN hNm i
    have hgl2 := gms_len (N := N.take i) fun x hx => hNm x (List.mem_of_mem_take hx)
    have hti : (N.take i).length ≤ 3 := by rw [List.length_take]; omega
    have gm := putGamma_fn (L := hdB 1 ++ gms (N.take i)) (n := N.getD i 0 + 1) (by omega) (by omega) (by rw [List.length_append]; omega)
    rw [List.append_assoc, ← gms_take (by omega)] at gm
    generalize N.getD i 0 = x at *
    rw [show ((x + 1 : Nat) : Int) = (x : Int) + 1 by omega] at gm
    simp (maxSteps := 1000000) (disch := (first | omega | (simp only [lnA, List.length_map, List.length_range, true_and, and_true]; (try omega); done) | fail)) only [go_sem, hg, Int.reduceEq, Int.reduceToNat, Nat.reduceAdd, Nat.reduceMul, Nat.reduceEqDiff, ↓reduceIte]
    refine callW [some 1, some 2] [] (gm) ?_
    refine runW ?_
    refine nextW (i + 1) [some 0, some 1, some 3] (by omega) (by omega)
  · obtain rfl : i = 3 := by omega
    rw [List.take_of_length_le (by omega)]
    have by_ := bytesR_fn (L := hdB 1 ++ gms N ++ rgB k a b s) (by omega)
    have sl := sealO_fn (l := pkb (hdB 1 ++ gms N ++ rgB k a b s)) (pkb_lt _) (by rw [pkb_len]; omega)
    rw [pk_nl] at by_
    refine runW ?_
    refine callW [some 1, some 2] [] (wr) ?_
    refine runW ?_
    refine callW [some 1, some 3] [] (by_) ?_
    refine runW ?_
    refine callW [] [] (sl) ?_
    refine runW ?_
    exact endW [some 4] hQ

set_option maxHeartbeats 2000000 in
theorem encA_fn {k a b n : Nat} {l : List SR} (h : goodN k a b) (hn : n ≤ 256) (hM : l.length = n) : Fn1 Tryz.prog 12 [itAP k a b n l] [] (.tup [.sl 0 1 0 ((pkb (hdB 2 ++ gms [k, a, b, n] ++ wbits (wd k a b) (l.map (nuO k a b)))).length + 4), .lit (.int .i64 0)]) [some (.row 1 ((nl (sealN (pkb (hdB 2 ++ gms [k, a, b, n] ++ wbits (wd k a b) (l.map (nuO k a b)))))).map (ie .u8)))] := by
  have ck := ckAP_fn (k := k) (a := a) (b := b) (n := n) (l := l)
  have ns := numsAP_fn (k := k) (a := a) (b := b) (n := n) (l := l)
  have hN3 : ([k, a, b, n] : List Nat).length = 4 := rfl
  have hNm : ∀ x ∈ ([k, a, b, n] : List Nat), x ≤ 1048576 := by
    intro x hx
    simp only [List.mem_cons, List.not_mem_nil, or_false] at hx
    rcases h with h | h | h | h <;> omega
  have n1 := num_fn (L := []) (n := 1) (m := 4) (by decide) (by decide) (by decide) (by decide) (by decide)
  have n2 := num_fn (L := numBits 1 4) (n := 2) (m := 3) (by decide) (by rw [numBits_len]; decide) (by decide) (by decide) (by decide)
  rw [List.nil_append] at n1
  generalize [k, a, b, n] = N at *
  have hnl := nl_len N
  have hgl := gms_len hNm
  have hhl := hdB_len 2
  have hrl := wbits_len (wd k a b) (l.map (nuO k a b))
  rw [List.length_map] at hrl
  have hwd := wd_ok h
  have hnw : l.length * wd k a b ≤ 256 * 16 := Nat.mul_le_mul (by omega) hwd.2
  have wr0 := fun (L : List Bool) (hL : L.length < 1099511600000) => writeP_fn (n := n) (w := wd k a b) (N := l.map (nuO k a b)) (L := L) hn ⟨hwd.1, by omega⟩ (by rw [List.length_map]; exact hM) (fun y hy => by
    obtain ⟨s, _, rfl⟩ := List.mem_map.1 hy
    exact nuO_lt k a b s) hL
  have hbl : (hdB 2 ++ gms N ++ wbits (wd k a b) (l.map (nuO k a b))).length ≤ 9000 := by
    rw [List.length_append, List.length_append]
    omega
  have hg0 : (hdB 2 ++ gms N).length < 1000000 := by rw [List.length_append]; omega
  have wr := wr0 (hdB 2 ++ gms N) (by omega)
  clear wr0
  have e0 : numBits 1 4 ++ numBits 2 3 = hdB 2 ++ gms (N.take 0) := by
    rw [List.take_zero]
    show _ = (numBits 1 4 ++ numBits 2 3) ++ []
    rw [List.append_nil]
  change Fn1 _ _ _ _ _ [some (wrC 2 (numBits 1 4 ++ numBits 2 3)), none, some (wrR (numBits 1 4 ++ numBits 2 3))] at n2
  rw [e0] at n2
  refine fn1N_of pl12 (by kernel_rfl) Tryz.call12 Tryz.func12 rfl (by kernel_rfl) rfl [.tmp 2, .tmp 3] (by kernel_rfl) fun Q hQ => ?_
  refine runW ?_
  refine callV0 (ck) rfl rfl ?_
  refine runW ?_
  refine callW [some 1, none] [] (n1) ?_
  refine runW ?_
  refine callW [some 1, some 3] [] (n2) ?_
  refine runW ?_
  refine callV0 (ns) rfl rfl ?_
  refine runW ?_
  refine loopW (X := Nat) (st := fun i => ([(1, .ref 0 0 0 0), (5, .ref 1 0 0 0), (23, .row 1 ((nl N).map (ie .i64))), (24, .lit (.int .i64 4)), (25, .lit (.int .i64 (i : Int)))],
      [some (.cells (itL (itAP k a b n l))), some (wrC 2 (hdB 2 ++ gms (N.take i))), some (wrR (hdB 2 ++ gms (N.take i)))]))
    (inv := fun i => i ≤ 4) (m := fun i => 4 - i) 0 [some 0, some 1, some 4] (Nat.zero_le _) ?_
  intro i hi
  by_cases hil : i < 4
  · have hg := nl_get N i
    have hx := getD_leN hNm i
    have hgl2 := gms_len (N := N.take i) fun x hx => hNm x (List.mem_of_mem_take hx)
    have hti : (N.take i).length ≤ 4 := by rw [List.length_take]; omega
    have gm := putGamma_fn (L := hdB 2 ++ gms (N.take i)) (n := N.getD i 0 + 1) (by omega) (by omega) (by rw [List.length_append]; omega)
    rw [List.append_assoc, ← gms_take (by omega)] at gm
    generalize N.getD i 0 = x at *
    rw [show ((x + 1 : Nat) : Int) = (x : Int) + 1 by omega] at gm
    simp (maxSteps := 1000000) (disch := (first | omega | (simp only [lnA, List.length_map, List.length_range, true_and, and_true]; (try omega); done) | fail)) only [go_sem, hg, Int.reduceEq, Int.reduceToNat, Nat.reduceAdd, Nat.reduceMul, Nat.reduceEqDiff, ↓reduceIte]
    refine callW [some 1, some 2] [] (gm) ?_
    refine runW ?_
    refine nextW (i + 1) [some 0, some 1, some 3] (by omega) (by omega)
  · obtain rfl : i = 4 := by omega
    rw [List.take_of_length_le (by omega)]
    have by_ := bytesR_fn (L := hdB 2 ++ gms N ++ wbits (wd k a b) (l.map (nuO k a b))) (by omega)
    have sl := sealO_fn (l := pkb (hdB 2 ++ gms N ++ wbits (wd k a b) (l.map (nuO k a b)))) (pkb_lt _) (by rw [pkb_len]; omega)
    rw [pk_nl] at by_
    refine runW ?_
    refine callW [some 1, some 2] [] (wr) ?_
    refine runW ?_
    refine callW [some 1, some 3] [] (by_) ?_
    refine runW ?_
    refine callW [] [] (sl) ?_
    refine runW ?_
    exact endW [some 4] hQ

set_option maxHeartbeats 2000000 in
theorem encS_fn {M D S : Nat} {st : SS} (hM : M ≤ 16) (hD : D ≤ 4) (hS : S ≤ 8) (hX : st.1.length ≤ 256) (hc : ∀ c ∈ st.1, c.1 < 2 ^ M ∧ c.2 < 2 ^ D) (hs : 1 ≤ st.2.1 ∧ st.2.1 ≤ 8) : Fn1 Tryz.prog 12 [itSP M D S st] [] (.tup [.sl 0 1 0 ((pkb (hdB 3 ++ gms [M, D, S, st.1.length] ++ sacB M D st)).length + 4), .lit (.int .i64 0)]) [some (.row 1 ((nl (sealN (pkb (hdB 3 ++ gms [M, D, S, st.1.length] ++ sacB M D st)))).map (ie .u8)))] := by
  have ck := ckSP_fn (M := M) (D := D) (S := S) (st := st)
  have ns := numsSP_fn (M := M) (D := D) (S := S) (st := st)
  have hN3 : ([M, D, S, st.1.length] : List Nat).length = 4 := rfl
  have hNm : ∀ x ∈ ([M, D, S, st.1.length] : List Nat), x ≤ 1048576 := by
    intro x hx
    simp only [List.mem_cons, List.not_mem_nil, or_false] at hx
    omega
  have n1 := num_fn (L := []) (n := 1) (m := 4) (by decide) (by decide) (by decide) (by decide) (by decide)
  have n2 := num_fn (L := numBits 1 4) (n := 3) (m := 3) (by decide) (by rw [numBits_len]; decide) (by decide) (by decide) (by decide)
  rw [List.nil_append] at n1
  generalize [M, D, S, st.1.length] = N at *
  have hnl := nl_len N
  have hgl := gms_len hNm
  have hhl := hdB_len 3
  have hrl := sacB_len M D st
  have hnw : st.1.length * (M + D) ≤ 256 * 20 := Nat.mul_le_mul hX (by omega)
  have wr0 := fun (L : List Bool) (hL : L.length < 1000000000) => swriteP_fn (M := M) (D := D) (S := S) (st := st) (L := L) hM hD hX hc hs hL
  have hbl : (hdB 3 ++ gms N ++ sacB M D st).length ≤ 9000 := by
    rw [List.length_append, List.length_append]
    omega
  have hg0 : (hdB 3 ++ gms N).length < 1000000 := by rw [List.length_append]; omega
  have wr := wr0 (hdB 3 ++ gms N) (by omega)
  clear wr0
  have e0 : numBits 1 4 ++ numBits 3 3 = hdB 3 ++ gms (N.take 0) := by
    rw [List.take_zero]
    show _ = (numBits 1 4 ++ numBits 3 3) ++ []
    rw [List.append_nil]
  change Fn1 _ _ _ _ _ [some (wrC 2 (numBits 1 4 ++ numBits 3 3)), none, some (wrR (numBits 1 4 ++ numBits 3 3))] at n2
  rw [e0] at n2
  refine fn1N_of pl12 (by kernel_rfl) Tryz.call12 Tryz.func12 rfl (by kernel_rfl) rfl [.tmp 2, .tmp 3] (by kernel_rfl) fun Q hQ => ?_
  refine runW ?_
  refine callV0 (ck) rfl rfl ?_
  refine runW ?_
  refine callW [some 1, none] [] (n1) ?_
  refine runW ?_
  refine callW [some 1, some 3] [] (n2) ?_
  refine runW ?_
  refine callV0 (ns) rfl rfl ?_
  refine runW ?_
  refine loopW (X := Nat) (st := fun i => ([(1, .ref 0 0 0 0), (5, .ref 1 0 0 0), (23, .row 1 ((nl N).map (ie .i64))), (24, .lit (.int .i64 4)), (25, .lit (.int .i64 (i : Int)))],
      [some (.cells (itL (itSP M D S st))), some (wrC 2 (hdB 3 ++ gms (N.take i))), some (wrR (hdB 3 ++ gms (N.take i)))]))
    (inv := fun i => i ≤ 4) (m := fun i => 4 - i) 0 [some 0, some 1, some 4] (Nat.zero_le _) ?_
  intro i hi
  by_cases hil : i < 4
  · have hg := nl_get N i
    have hx := getD_leN hNm i
    have hgl2 := gms_len (N := N.take i) fun x hx => hNm x (List.mem_of_mem_take hx)
    have hti : (N.take i).length ≤ 4 := by rw [List.length_take]; omega
    have gm := putGamma_fn (L := hdB 3 ++ gms (N.take i)) (n := N.getD i 0 + 1) (by omega) (by omega) (by rw [List.length_append]; omega)
    rw [List.append_assoc, ← gms_take (by omega)] at gm
    generalize N.getD i 0 = x at *
    rw [show ((x + 1 : Nat) : Int) = (x : Int) + 1 by omega] at gm
    simp (maxSteps := 1000000) (disch := (first | omega | (simp only [lnA, List.length_map, List.length_range, true_and, and_true]; (try omega); done) | fail)) only [go_sem, hg, Int.reduceEq, Int.reduceToNat, Nat.reduceAdd, Nat.reduceMul, Nat.reduceEqDiff, ↓reduceIte]
    refine callW [some 1, some 2] [] (gm) ?_
    refine runW ?_
    refine nextW (i + 1) [some 0, some 1, some 3] (by omega) (by omega)
  · obtain rfl : i = 4 := by omega
    rw [List.take_of_length_le (by omega)]
    have by_ := bytesR_fn (L := hdB 3 ++ gms N ++ sacB M D st) (by omega)
    have sl := sealO_fn (l := pkb (hdB 3 ++ gms N ++ sacB M D st)) (pkb_lt _) (by rw [pkb_len]; omega)
    rw [pk_nl] at by_
    refine runW ?_
    refine callW [some 1, some 2] [] (wr) ?_
    refine runW ?_
    refine callW [some 1, some 3] [] (by_) ?_
    refine runW ?_
    refine callW [] [] (sl) ?_
    refine runW ?_
    exact endW [some 4] hQ

set_option maxHeartbeats 2000000 in
theorem encC_fn {R C k a b T : Nat} {l : List RW} (h : goodN k a b) (hC : 1 ≤ C ∧ C ≤ 64) (hR : R ≤ 4) (hl1 : l.length ≤ 4) (hl : ∀ r ∈ l, okRow k a b C r) (hT : T ≤ 1099511627776) : Fn1 Tryz.prog 12 [itCP R C k a b l T] [] (.tup [.sl 0 1 0 ((pkb (hdB 4 ++ gms [R, C, k, a, b] ++ cmB k a b l T)).length + 4), .lit (.int .i64 0)]) [some (.row 1 ((nl (sealN (pkb (hdB 4 ++ gms [R, C, k, a, b] ++ cmB k a b l T)))).map (ie .u8)))] := by
  have ck := ckCP_fn (R := R) (C := C) (k := k) (a := a) (b := b) (T := T) (l := l)
  have ns := numsCP_fn (R := R) (C := C) (k := k) (a := a) (b := b) (T := T) (l := l)
  have hN3 : ([R, C, k, a, b] : List Nat).length = 5 := rfl
  have hNm : ∀ x ∈ ([R, C, k, a, b] : List Nat), x ≤ 1048576 := by
    intro x hx
    simp only [List.mem_cons, List.not_mem_nil, or_false] at hx
    rcases h with h | h | h | h <;> omega
  have n1 := num_fn (L := []) (n := 1) (m := 4) (by decide) (by decide) (by decide) (by decide) (by decide)
  have n2 := num_fn (L := numBits 1 4) (n := 4) (m := 3) (by decide) (by rw [numBits_len]; decide) (by decide) (by decide) (by decide)
  rw [List.nil_append] at n1
  generalize [R, C, k, a, b] = N at *
  have hnl := nl_len N
  have hgl := gms_len hNm
  have hhl := hdB_len 4
  have hrl : (cmB k a b l T).length = (varB T).length + l.length * (122 + C * wd k a b) := by unfold cmB; rw [List.length_append, rwsB_len hl]
  have hvl := varB_mid hT
  have hwd := wd_ok h
  have hnw : l.length * (122 + C * wd k a b) ≤ 4 * (122 + 64 * 16) := Nat.mul_le_mul hl1 (Nat.add_le_add_left (Nat.mul_le_mul hC.2 hwd.2) _)
  have wr0 := fun (L : List Bool) (hL : L.length < 1000000000) => cmWriteP_fn (R := R) (C := C) (k := k) (a := a) (b := b) (T := T) (l := l) (L := L) h hC hl1 hl hT hL
  have hbl : (hdB 4 ++ gms N ++ cmB k a b l T).length ≤ 9000 := by
    rw [List.length_append, List.length_append]
    omega
  have hg0 : (hdB 4 ++ gms N).length < 1000000 := by rw [List.length_append]; omega
  have wr := wr0 (hdB 4 ++ gms N) (by omega)
  clear wr0
  have e0 : numBits 1 4 ++ numBits 4 3 = hdB 4 ++ gms (N.take 0) := by
    rw [List.take_zero]
    show _ = (numBits 1 4 ++ numBits 4 3) ++ []
    rw [List.append_nil]
  change Fn1 _ _ _ _ _ [some (wrC 2 (numBits 1 4 ++ numBits 4 3)), none, some (wrR (numBits 1 4 ++ numBits 4 3))] at n2
  rw [e0] at n2
  refine fn1N_of pl12 (by kernel_rfl) Tryz.call12 Tryz.func12 rfl (by kernel_rfl) rfl [.tmp 2, .tmp 3] (by kernel_rfl) fun Q hQ => ?_
  refine runW ?_
  refine callV0 (ck) rfl rfl ?_
  refine runW ?_
  refine callW [some 1, none] [] (n1) ?_
  refine runW ?_
  refine callW [some 1, some 3] [] (n2) ?_
  refine runW ?_
  refine callV0 (ns) rfl rfl ?_
  refine runW ?_
  refine loopW (X := Nat) (st := fun i => ([(1, .ref 0 0 0 0), (5, .ref 1 0 0 0), (23, .row 1 ((nl N).map (ie .i64))), (24, .lit (.int .i64 5)), (25, .lit (.int .i64 (i : Int)))],
      [some (.cells (itL (itCP R C k a b l T))), some (wrC 2 (hdB 4 ++ gms (N.take i))), some (wrR (hdB 4 ++ gms (N.take i)))]))
    (inv := fun i => i ≤ 5) (m := fun i => 5 - i) 0 [some 0, some 1, some 4] (Nat.zero_le _) ?_
  intro i hi
  by_cases hil : i < 5
  · have hg := nl_get N i
    have hx := getD_leN hNm i
    have hgl2 := gms_len (N := N.take i) fun x hx => hNm x (List.mem_of_mem_take hx)
    have hti : (N.take i).length ≤ 5 := by rw [List.length_take]; omega
    have gm := putGamma_fn (L := hdB 4 ++ gms (N.take i)) (n := N.getD i 0 + 1) (by omega) (by omega) (by rw [List.length_append]; omega)
    rw [List.append_assoc, ← gms_take (by omega)] at gm
    generalize N.getD i 0 = x at *
    rw [show ((x + 1 : Nat) : Int) = (x : Int) + 1 by omega] at gm
    simp (maxSteps := 1000000) (disch := (first | omega | (simp only [lnA, List.length_map, List.length_range, true_and, and_true]; (try omega); done) | fail)) only [go_sem, hg, Int.reduceEq, Int.reduceToNat, Nat.reduceAdd, Nat.reduceMul, Nat.reduceEqDiff, ↓reduceIte]
    refine callW [some 1, some 2] [] (gm) ?_
    refine runW ?_
    refine nextW (i + 1) [some 0, some 1, some 3] (by omega) (by omega)
  · obtain rfl : i = 5 := by omega
    rw [List.take_of_length_le (by omega)]
    have by_ := bytesR_fn (L := hdB 4 ++ gms N ++ cmB k a b l T) (by omega)
    have sl := sealO_fn (l := pkb (hdB 4 ++ gms N ++ cmB k a b l T)) (pkb_lt _) (by rw [pkb_len]; omega)
    rw [pk_nl] at by_
    refine runW ?_
    refine callW [some 1, some 2] [] (wr) ?_
    refine runW ?_
    refine callW [some 1, some 3] [] (by_) ?_
    refine runW ?_
    refine callW [] [] (sl) ?_
    refine runW ?_
    exact endW [some 4] hQ

set_option maxHeartbeats 2000000 in
theorem encM_fn {K P C T : Nat} {X : List (Nat × Nat)} (hK : K ≤ 8) (hP : P ≤ 8) (hC : C ≤ 16) (hX : X.length ≤ 16) (hk : ∀ x ∈ X, x.1 < 2305843009213693951 ∧ x.2 ≤ 1048576) (h1 : T = 0 ∨ ∀ x ∈ X, 1 ≤ x.2) (hT : T ≤ 1048576) : Fn1 Tryz.prog 12 [itMP K P C X T] [] (.tup [.sl 0 1 0 ((pkb (hdB 5 ++ gms [K, P, C] ++ amsB X T)).length + 4), .lit (.int .i64 0)]) [some (.row 1 ((nl (sealN (pkb (hdB 5 ++ gms [K, P, C] ++ amsB X T)))).map (ie .u8)))] := by
  have ck := ckMP_fn (K := K) (P := P) (C := C) (T := T) (X := X)
  have ns := numsMP_fn (K := K) (P := P) (C := C) (T := T) (X := X)
  have hN3 : ([K, P, C] : List Nat).length = 3 := rfl
  have hNm : ∀ x ∈ ([K, P, C] : List Nat), x ≤ 1048576 := by
    intro x hx
    simp only [List.mem_cons, List.not_mem_nil, or_false] at hx
    omega
  have n1 := num_fn (L := []) (n := 1) (m := 4) (by decide) (by decide) (by decide) (by decide) (by decide)
  have n2 := num_fn (L := numBits 1 4) (n := 5) (m := 3) (by decide) (by rw [numBits_len]; decide) (by decide) (by decide) (by decide)
  rw [List.nil_append] at n1
  generalize [K, P, C] = N at *
  have hnl := nl_len N
  have hgl := gms_len hNm
  have hhl := hdB_len 5
  have hrl : (amsB X T).length ≤ 24 + 16 * 102 := by
    have hv := varB_short hT
    unfold amsB
    rw [List.length_append]
    split
    · rw [List.length_nil]; omega
    · rename_i h0
      have := smB_len (X := X) fun x hx => ⟨(h1.resolve_left h0) x hx, (hk x hx).2⟩
      have h2 : X.length * 102 ≤ 16 * 102 := Nat.mul_le_mul_right _ hX
      omega
  have wr0 := fun (L : List Bool) (hL : L.length < 1000000000) => awriteP_fn (K := (K : Int)) (P := (P : Int)) (C := (C : Int)) (X := X) (N := T) (L := L) (by omega) hk h1 hT hL
  have hbl : (hdB 5 ++ gms N ++ amsB X T).length ≤ 9000 := by
    rw [List.length_append, List.length_append]
    omega
  have hg0 : (hdB 5 ++ gms N).length < 1000000 := by rw [List.length_append]; omega
  have wr := wr0 (hdB 5 ++ gms N) (by omega)
  clear wr0
  have e0 : numBits 1 4 ++ numBits 5 3 = hdB 5 ++ gms (N.take 0) := by
    rw [List.take_zero]
    show _ = (numBits 1 4 ++ numBits 5 3) ++ []
    rw [List.append_nil]
  change Fn1 _ _ _ _ _ [some (wrC 2 (numBits 1 4 ++ numBits 5 3)), none, some (wrR (numBits 1 4 ++ numBits 5 3))] at n2
  rw [e0] at n2
  refine fn1N_of pl12 (by kernel_rfl) Tryz.call12 Tryz.func12 rfl (by kernel_rfl) rfl [.tmp 2, .tmp 3] (by kernel_rfl) fun Q hQ => ?_
  refine runW ?_
  refine callV0 (ck) rfl rfl ?_
  refine runW ?_
  refine callW [some 1, none] [] (n1) ?_
  refine runW ?_
  refine callW [some 1, some 3] [] (n2) ?_
  refine runW ?_
  refine callV0 (ns) rfl rfl ?_
  refine runW ?_
  refine loopW (X := Nat) (st := fun i => ([(1, .ref 0 0 0 0), (5, .ref 1 0 0 0), (23, .row 1 ((nl N).map (ie .i64))), (24, .lit (.int .i64 3)), (25, .lit (.int .i64 (i : Int)))],
      [some (.cells (itL (itMP K P C X T))), some (wrC 2 (hdB 5 ++ gms (N.take i))), some (wrR (hdB 5 ++ gms (N.take i)))]))
    (inv := fun i => i ≤ 3) (m := fun i => 3 - i) 0 [some 0, some 1, some 4] (Nat.zero_le _) ?_
  intro i hi
  by_cases hil : i < 3
  · have hg := nl_get N i
    have hx := getD_leN hNm i
    have hgl2 := gms_len (N := N.take i) fun x hx => hNm x (List.mem_of_mem_take hx)
    have hti : (N.take i).length ≤ 3 := by rw [List.length_take]; omega
    have gm := putGamma_fn (L := hdB 5 ++ gms (N.take i)) (n := N.getD i 0 + 1) (by omega) (by omega) (by rw [List.length_append]; omega)
    rw [List.append_assoc, ← gms_take (by omega)] at gm
    generalize N.getD i 0 = x at *
    rw [show ((x + 1 : Nat) : Int) = (x : Int) + 1 by omega] at gm
    simp (maxSteps := 1000000) (disch := (first | omega | (simp only [lnA, List.length_map, List.length_range, true_and, and_true]; (try omega); done) | fail)) only [go_sem, hg, Int.reduceEq, Int.reduceToNat, Nat.reduceAdd, Nat.reduceMul, Nat.reduceEqDiff, ↓reduceIte]
    refine callW [some 1, some 2] [] (gm) ?_
    refine runW ?_
    refine nextW (i + 1) [some 0, some 1, some 3] (by omega) (by omega)
  · obtain rfl : i = 3 := by omega
    rw [List.take_of_length_le (by omega)]
    have by_ := bytesR_fn (L := hdB 5 ++ gms N ++ amsB X T) (by omega)
    have sl := sealO_fn (l := pkb (hdB 5 ++ gms N ++ amsB X T)) (pkb_lt _) (by rw [pkb_len]; omega)
    rw [pk_nl] at by_
    refine runW ?_
    refine callW [some 1, some 2] [] (wr) ?_
    refine runW ?_
    refine callW [some 1, some 3] [] (by_) ?_
    refine runW ?_
    refine callW [] [] (sl) ?_
    refine runW ?_
    exact endW [some 4] hQ

end Go.Proofs.YteookgjmohokiaaGreat
