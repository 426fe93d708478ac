import Derived.Test.YtpkfddfkacijoaaGreatDoorSl
import Derived.Test.YtpkfddfkacijoaaGreatDoorRb
import Derived.Test.YtpkfddfkacijoaaGreatDoorE7
import Derived.Test.YtpkfddfkacijoaaGreatDoorE6
import Derived.Test.YtpkfddfkacijoaaGreatDoorE8
import Derived.Test.YtpkfddfkacijoaaGreatDoorSi
namespace Go.Proofs.YtpkfddfkacijoaaGreatDoor
open Go.Eng Go.Vx
set_option linter.unusedSimpArgs false
set_option linter.unusedVariables false
set_option maxRecDepth 100000
def W5 (M D S n : Nat) (x y : SS) (L : List Bool) (p : Nat) (d : Bool) : St := [some (saO M D S 3 n x.2.1 x.2.2), some (tpC L p d), some (saO M D S 4 n y.2.1 y.2.2), some (.row 2 (x.1.map cV)), some (.row 2 (y.1.map cV))]
attribute [go_sem] W5
end Go.Proofs.YtpkfddfkacijoaaGreatDoor

namespace Go.Proofs.YtpkfddfkacijoaaGreatDoor
set_option linter.unusedSimpArgs false
set_option linter.unusedVariables false
def mergeR (M D S : Nat) (L : List Bool) (d : Bool) (x y : SS) (p : Nat) : SS × Int × Nat × Bool := outG x L d ((mergeD (SPof M D S) x y).run L p)
end Go.Proofs.YtpkfddfkacijoaaGreatDoor

namespace Go.Proofs.YtpkfddfkacijoaaGreatDoor
open Go.Eng Go.Vx
set_option linter.unusedSimpArgs false
set_option linter.unusedVariables false
set_option maxRecDepth 100000
end Go.Proofs.YtpkfddfkacijoaaGreatDoor

namespace Go.Proofs.YtpkfddfkacijoaaGreatDoor
open Go.Eng Go.Vx
set_option linter.unusedSimpArgs false
set_option linter.unusedVariables false
set_option maxRecDepth 100000
theorem isB_pk3 (L : List Bool) : IsB (pk L) := by
 intro x hx
 unfold pk pkTo at hx
 obtain ⟨k, _, rfl⟩ := List.mem_map.1 hx
 have := byteV_lt L k
 omega
def three (k x : Nat) : List Bool := numBits x (k + 1) ++ deltaB (x ||| 1) ++ varB x
end Go.Proofs.YtpkfddfkacijoaaGreatDoor

namespace Go.Proofs.YtpkfddfkacijoaaGreatDoor
open Go.Eng Go.Vx
set_option linter.unusedSimpArgs false
set_option linter.unusedVariables false
set_option maxRecDepth 100000
theorem saddI_fn {M D S p : Nat} {i n : Int} {st : SS} {d : Bool} {L : List Bool} (hX : st.1.length ≤ 256) (hi : i < 0 ∨ (st.1.length : Int) ≤ i) :
  Fn1 Tryz.prog 57 [.ref 0 0 0 0, .ref 1 0 0 0, .lit (.int .i64 i), .lit (.int .i64 n)] [some (saC M D S st), some (tpC L p d)] (.lit (.int .i64 1)) [some (saC M D S st), some (tpC L p d)] := by
 have g := sgetE_fn (M := M) (D := D) (S := S) hi hX
 refine fn1N_of pl57 (by kernel_rfl) Tryz.call57 Tryz.func57 rfl (by kernel_rfl) rfl [.tmp 8] (by kernel_rfl) fun Q hQ => ?_
 refine runW ?_
 refine callT (g) ?_
 refine runW ?_
 exact endW [some 0, some 1] hQ
theorem saddN_fn {M D S p i : Nat} {n : Int} {st : SS} {d : Bool} {L : List Bool} (hX : st.1.length ≤ 256) (hi : i < st.1.length) (hn : n < 0 ∨ 1048576 < n) :
  Fn1 Tryz.prog 57 [.ref 0 0 0 0, .ref 1 0 0 0, .lit (.int .i64 (i : Int)), .lit (.int .i64 n)] [some (saC M D S st), some (tpC L p d)] (.lit (.int .i64 2)) [some (saC M D S st), some (tpC L p d)] := by
 have hgi : st.1[i]? = some (st.1.getD i (0, 0)) := by rw [List.getD_eq_getElem?_getD, List.getElem?_eq_getElem hi]; rfl
 have g := sget_fn (M := M) (D := D) (S := S) hgi hX
 refine fn1N_of pl57 (by kernel_rfl) Tryz.call57 Tryz.func57 rfl (by kernel_rfl) rfl [.tmp 8] (by kernel_rfl) fun Q hQ => ?_
 by_cases h0 : n < 0
 ·
  refine runW ?_
  refine callT (g) ?_
  refine runW ?_
  exact endW [some 0, some 1] hQ
 ·
  have h1 : 1048576 < n := by omega
  refine runW ?_
  refine callT (g) ?_
  refine runW ?_
  exact endW [some 0, some 1] hQ
theorem small19_fn {a b c : Int} : ∃ M D S : Nat, WB M D S ∧ M ≤ 4 ∧ S ≤ 3 ∧ Fn1 Tryz.prog 22 [.agg [.lit (.int .i64 a), .lit (.int .i64 b), .lit (.int .i64 c)]] [] (pA M D S) [] := by
 obtain ⟨M, hM⟩ : ∃ m : Nat, 1 + a % 4 = (m : Int) := ⟨(1 + a % 4).toNat, by omega⟩
 obtain ⟨D, hD⟩ : ∃ m : Nat, 1 + b % 2 = (m : Int) := ⟨(1 + b % 2).toNat, by omega⟩
 obtain ⟨S, hS⟩ : ∃ m : Nat, 1 + c % 256 % 3 = (m : Int) := ⟨(1 + c % 256 % 3).toNat, by omega⟩
 have m1 : bitK .and .i64 a 3 = a % 4 := bitK_mask (k := .i64) (j := 2) (a := a) (by decide)
 have m2 : bitK .and .i64 b 1 = b % 2 := bitK_mask (k := .i64) (j := 1) (a := b) (by decide)
 have m3 : bitK .and .i64 c 255 = c % 256 := bitK_mask (k := .i64) (j := 8) (a := c) (by decide)
 refine ⟨M, D, S, ⟨by omega, by omega, by omega, by omega, by omega, by omega⟩, by omega, by omega, ?_⟩
 refine fn1N_of pl22 (by kernel_rfl) Tryz.call22 Tryz.func22 rfl (by kernel_rfl) rfl [.cell 2 60] (by kernel_rfl) fun Q hQ => ?_
 simp (maxSteps := 1000000) (disch := (first | omega | (simp only [lnA, List.length_map, List.length_range, true_and, and_true]; (try omega); done) | fail)) only [go_sem, m1, m2, m3, hM, hD, hS, Int.reduceEq, Int.reduceToNat, Nat.reduceAdd, Nat.reduceMul, Nat.reduceEqDiff, ↓reduceIte]
 exact endW [] hQ
theorem own19_fn {M D S : Nat} : Fn1 Tryz.prog 27 [pA M D S] [] (pA M D S) [] := by
 refine fn1N_of pl27 (by kernel_rfl) Tryz.call27 Tryz.func27 rfl (by kernel_rfl) rfl [.cell 2 73] (by kernel_rfl) fun Q hQ => ?_
 refine runW ?_
 exact endW [] hQ
theorem WB.good {M D S : Nat} (h : WB M D S) : goodS M D S := ⟨⟨by have := h.m1; omega, by have := h.m8; omega⟩, ⟨by have := h.d1; omega, by have := h.d2; omega⟩, by have := h.s1; omega, by have := h.s4; omega⟩
theorem aw19a : addR 2 1 2 [] false ([(0, 0)], 1, false) 0 3 0 = (([(3, 0)], 1, false), 0, 0, false) := by rfl
theorem aw19b : addR 2 1 2 [true] false ([(3, 0)], 1, false) 0 2 0 = (([(2, 1)], 1, false), 0, 1, false) := by rfl
theorem ok0 {P : SP} (h : PB P) {n : Nat} : SOk P (List.replicate n (0, 0), 1, false) := ⟨fun c hc => by
 rw [List.eq_of_mem_replicate hc]
 exact ⟨Nat.zero_le _, Nat.zero_le _, fun _ => rfl⟩, Nat.le_refl _, h.s1, fun h => by cases h⟩
theorem awake19_fn : Fn1 Tryz.prog 21 [] [] (.lit (.bool true)) [] := by
 have w : WB 2 1 2 := ⟨by decide, by decide, by decide, by decide, by decide, by decide⟩
 have hn := snew_fn (n := 1) w.good (by decide)
 rw [show List.replicate 1 ((0 : Nat), (0 : Nat)) = [(0, 0)] from rfl] at hn
 have a1 := sadd_fn (st := ([(0, 0)], 1, false)) (L := []) (p := 0) (d := false) (i := 0) (n := 3) w (by decide) (by decide) (fun h => by cases h) (by decide) (by decide) (ok0 w.pw.toPB (n := 1)) (by decide)
 rw [aw19a] at a1
 have ok1 : SOk (SPof 2 1 2) ([(3, 0)], 1, false) := ⟨fun c hc => by
  rw [List.mem_singleton.1 hc]
  exact ⟨by decide, by decide, by decide⟩, by decide, by decide, fun h => by cases h⟩
 have a2 := sadd_fn (st := ([(3, 0)], 1, false)) (L := [true]) (p := 0) (d := false) (i := 0) (n := 2) w (by decide) (by decide) (fun h => by cases h) (by decide) (by decide) ok1 (by decide)
 rw [aw19b] at a2
 have t1 := newT_fn (L := []) (by decide)
 have t2 := newT_fn (L := [true]) (by decide)
 have g := sget_fn (M := 2) (D := 1) (S := 2) (st := ([(2, 1)], 1, false)) (i := 0) (c := (2, 1)) rfl (by decide)
 have v := svalueL_fn (M := 2) (D := 1) (S := 2) (st := ([(2, 1)], 1, false)) (i := 0) (c := (2, 1)) rfl (by decide) (by decide) (by decide)
 rw [show wth (2, 1) ([(2, 1)], 1, false).2.1 = 4 from rfl] at v
 have tx := ntext_fn (n := 4) (Nat.le_trans (wg_one (by decide)) (by decide))
 rw [show decS 4 = [52] by rw [decS_small (by decide)]; decide] at tx
 simp only [pA, saC, saP, tpC, cA, List.map_cons, List.map_nil, cV_eq, Int.cast_ofNat_Int, List.length_nil] at hn a1 a2 t1 t2 g v
 refine fn1N_of pl21 (by kernel_rfl) Tryz.call21 Tryz.func21 rfl (by kernel_rfl) rfl [.tmp 0] (by kernel_rfl) fun Q hQ => ?_
 refine runW ?_
 refine callW [] [] (hn) ?_
 refine runW ?_
 refine callW [] [] (t1) ?_
 refine runW ?_
 refine callW [some 0, some 1] [] (a1) ?_
 refine runW ?_
 refine callW [] [2] (t2) ?_
 refine runW ?_
 refine callW [some 0, some 3] [] (a2) ?_
 refine runW ?_
 refine callT (g) ?_
 refine runW ?_
 refine callW [some 0] [] (v) ?_
 refine runW ?_
 refine callV0 (tx) rfl rfl ?_
 refine runW ?_
 exact endW [] hQ
end Go.Proofs.YtpkfddfkacijoaaGreatDoor

namespace Go.Proofs.YtpkfddfkacijoaaGreatDoor
open Go.Eng Go.Vx
set_option linter.unusedSimpArgs false
set_option linter.unusedVariables false
set_option maxRecDepth 100000
structure Run19 (M D S n : Nat) (L : List Bool) (st : SS) (p : Nat) (d : Bool) : Prop where
 ok : SOk (SPof M D S) st
 len : st.1.length = n
 pl : p ≤ L.length
 dl : d = true → p = L.length
def aV (x : Int × Int) : List PV := [.lit (.int .i64 x.1), .lit (.int .i64 x.2)]
@[go_sem] theorem aV_eq {x : Int × Int} : aV x = [.lit (.int .i64 x.1), .lit (.int .i64 x.2)] := (rfl)
end Go.Proofs.YtpkfddfkacijoaaGreatDoor
