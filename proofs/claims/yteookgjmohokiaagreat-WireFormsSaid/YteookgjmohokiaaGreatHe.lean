import Derived.Test.YteookgjmohokiaaGreatHd
import Derived.Test.YteookgjmohokiaaGreatHb
import Derived.Test.YteookgjmohokiaaGreatWo
import Derived.Test.YteookgjmohokiaaGreatWr
/-! Package wire: registers and arrays as bytes. -/
namespace Go.Proofs.YteookgjmohokiaaGreat
open Go.Eng Go.Vx
set_option linter.unusedSimpArgs false
set_option linter.unusedVariables false
set_option maxRecDepth 100000
def pkb (L : List Bool) : List Nat := (List.range ((L.length + 7) / 8)).map (byteV L)
theorem pk_nl (L : List Bool) : pk L = nl (pkb L) := by
  unfold pk pkTo pkb nl
  rw [List.map_map]
  rfl
theorem pkb_lt (L : List Bool) : ∀ x ∈ pkb L, x < 256 := fun x hx => by
  obtain ⟨j, _, rfl⟩ := List.mem_map.1 hx
  exact byteV_lt L j
theorem pkb_len (L : List Bool) : (pkb L).length = (L.length + 7) / 8 := by simp [pkb]
def hdB (t : Nat) : List Bool := numBits 1 4 ++ numBits t 3
def gms (N : List Nat) : List Bool := N.flatMap fun n => gammaB (n + 1)
theorem gms_app (N M : List Nat) : gms (N ++ M) = gms N ++ gms M := by simp [gms]
theorem gms_take {N : List Nat} {i : Nat} (h : i < N.length) : gms (N.take (i + 1)) = gms (N.take i) ++ gammaB (N.getD i 0 + 1) := by
  rw [take_succ_N h, gms_app]; simp [gms]
theorem gms_len : ∀ {N : List Nat}, (∀ n ∈ N, n ≤ 1048576) → (gms N).length ≤ N.length * 41
  | [], _ => Nat.le_refl _
  | n :: N, h => by
    have ih := gms_len (N := N) fun m hm => h m (by simp [hm])
    have hg := gammaB_len (n := n + 1) (by omega)
    have hb := bl_le_of (n := n + 1) (k := 21) (by have := h n (by simp); omega)
    show (gammaB (n + 1) ++ gms N).length ≤ _
    rw [List.length_append, List.length_cons]
    omega
/-- Items: a register; an array under a number. -/
def itR (k a b : Nat) (s : Nat × Nat × Bool) : V := .agg [.lit (.int .i64 1), .lit (.int .i64 (k : Int)), .lit (.int .i64 (a : Int)), .lit (.int .i64 (b : Int)), .lit (.int .i64 (s.1 : Int)), .lit (.int .i64 (s.2.1 : Int)), .lit (.bool s.2.2), .lit (.pointer none), .lit (.pointer none), .lit (.pointer none), .lit (.pointer none)]
def itA (v : Nat) : V := .agg [.lit (.int .i64 2), .lit (.int .i64 0), .lit (.int .i64 0), .lit (.int .i64 0), .lit (.int .i64 0), .lit (.int .i64 0), .lit (.bool false), .ref v 0 0 0, .lit (.pointer none), .lit (.pointer none), .lit (.pointer none)]
attribute [go_sem] itR itA
@[go_sem] theorem pnO_3 {z : Nat} {a b c : Value} : pnO (.row z [[.lit a], [.lit b], [.lit c]]) = True := eq_true fun e he p hp => by
  rcases List.mem_cons.1 he with rfl | he
  · rw [List.mem_singleton.1 hp]; rfl
  rcases List.mem_cons.1 he with rfl | he
  · rw [List.mem_singleton.1 hp]; rfl
  rw [List.mem_singleton.1 he] at hp
  rw [List.mem_singleton.1 hp]; rfl
theorem ofReg_fn {k a b : Nat} : Fn1 Tryz.prog 46 [pR k a b] [] (.sl 0 1 0 3) [some (.row 1 ((nl [k, a, b]).map (ie .i64)))] := by
  refine fn1N_of pl46 (by kernel_rfl) Tryz.call46 Tryz.func46 rfl (by kernel_rfl) rfl [.tmp 2] (by kernel_rfl) fun Q hQ => ?_
  simp only [nl, List.map_cons, List.map_nil, ie] at hQ
  simp (maxSteps := 1000000) (disch := (first | omega | (simp only [lnA, List.length_map, List.length_range, true_and, and_true]; (try omega); done) | fail)) only [go_sem, Int.reduceEq, Int.reduceToNat, Nat.reduceAdd, Nat.reduceMul, Nat.reduceEqDiff, ↓reduceIte]
  exact endW [some 1] hQ
theorem gReg_fn {k a b : Nat} {s : Nat × Nat × Bool} (h : goodN k a b) (w : wellN k a b s) : Fn1 Tryz.prog 41 [itR k a b s] [] (.lit (.bool true)) [] := by
  have rw' := rWell_fn h w
  refine fn1N_of pl41 (by kernel_rfl) Tryz.call41 Tryz.func41 rfl (by kernel_rfl) rfl [.tmp 2] (by kernel_rfl) fun Q hQ => ?_
  simp (maxSteps := 1000000) (disch := (first | omega | (simp only [lnA, List.length_map, List.length_range, true_and, and_true]; (try omega); done) | fail)) only [go_sem, Int.reduceEq, Int.reduceToNat, Nat.reduceAdd, Nat.reduceMul, Nat.reduceEqDiff, ↓reduceIte]
  refine callV0 (rw') rfl rfl ?_
  simp (maxSteps := 1000000) (disch := (first | omega | (simp only [lnA, List.length_map, List.length_range, true_and, and_true]; (try omega); done) | fail)) only [go_sem, Int.reduceEq, Int.reduceToNat, Nat.reduceAdd, Nat.reduceMul, Nat.reduceEqDiff, ↓reduceIte]
  exact endW [] hQ
theorem ckReg_fn {k a b : Nat} {s : Nat × Nat × Bool} (h : goodN k a b) (w : wellN k a b s) : Fn1 Tryz.prog 18 [itR k a b s] [] (.lit (.int .i64 0)) [] := by
  have g := gReg_fn h w
  refine fn1N_of pl18 (by kernel_rfl) Tryz.call18 Tryz.func18 rfl (by kernel_rfl) rfl [.tmp 2] (by kernel_rfl) fun Q hQ => ?_
  simp (maxSteps := 1000000) (disch := (first | omega | (simp only [lnA, List.length_map, List.length_range, true_and, and_true]; (try omega); done) | fail)) only [go_sem, Int.reduceEq, Int.reduceToNat, Nat.reduceAdd, Nat.reduceMul, Nat.reduceEqDiff, ↓reduceIte]
  refine callV0 (g) rfl rfl ?_
  simp (maxSteps := 1000000) (disch := (first | omega | (simp only [lnA, List.length_map, List.length_range, true_and, and_true]; (try omega); done) | fail)) only [go_sem, Int.reduceEq, Int.reduceToNat, Nat.reduceAdd, Nat.reduceMul, Nat.reduceEqDiff, ↓reduceIte]
  exact endW [] hQ
theorem gArr_fn {k a b n w X : Nat} : Fn1 Tryz.prog 41 [itA 0] [some (caC 1 k a b), some (vcC 2 n w), some (vcR n w X)] (.lit (.bool true)) [some (caC 1 k a b), some (vcC 2 n w), some (vcR n w X)] := by
  refine fn1N_of pl41 (by kernel_rfl) Tryz.call41 Tryz.func41 rfl (by kernel_rfl) rfl [.tmp 2] (by kernel_rfl) fun Q hQ => ?_
  simp (maxSteps := 1000000) (disch := (first | omega | (simp only [lnA, List.length_map, List.length_range, true_and, and_true]; (try omega); done) | fail)) only [go_sem, Int.reduceEq, Int.reduceToNat, Nat.reduceAdd, Nat.reduceMul, Nat.reduceEqDiff, ↓reduceIte]
  exact endW [some 0, some 1, some 2] hQ
theorem ckArr_fn {k a b n w X : Nat} : Fn1 Tryz.prog 18 [itA 0] [some (caC 1 k a b), some (vcC 2 n w), some (vcR n w X)] (.lit (.int .i64 0)) [some (caC 1 k a b), some (vcC 2 n w), some (vcR n w X)] := by
  have g := gArr_fn (k := k) (a := a) (b := b) (n := n) (w := w) (X := X)
  refine fn1N_of pl18 (by kernel_rfl) Tryz.call18 Tryz.func18 rfl (by kernel_rfl) rfl [.tmp 2] (by kernel_rfl) fun Q hQ => ?_
  simp (maxSteps := 1000000) (disch := (first | omega | (simp only [lnA, List.length_map, List.length_range, true_and, and_true]; (try omega); done) | fail)) only [go_sem, Int.reduceEq, Int.reduceToNat, Nat.reduceAdd, Nat.reduceMul, Nat.reduceEqDiff, ↓reduceIte]
  refine callW [some 0, some 1, some 2] [] (g) ?_
  simp (maxSteps := 1000000) (disch := (first | omega | (simp only [lnA, List.length_map, List.length_range, true_and, and_true]; (try omega); done) | fail)) only [go_sem, Int.reduceEq, Int.reduceToNat, Nat.reduceAdd, Nat.reduceMul, Nat.reduceEqDiff, ↓reduceIte]
  exact endW [some 0, some 1, some 2] hQ
theorem numsR_fn {k a b : Nat} {s : Nat × Nat × Bool} : Fn1 Tryz.prog 24 [itR k a b s] [] (.row 1 ((nl [k, a, b]).map (ie .i64))) [] := by
  have o := ofReg_fn (k := k) (a := a) (b := b)
  simp only [nl, List.map_cons, List.map_nil, ie] at o
  refine fn1N_of pl24 (by kernel_rfl) Tryz.call24 Tryz.func24 rfl (by kernel_rfl) rfl [.tmp 2] (by kernel_rfl) fun Q hQ => ?_
  simp only [nl, List.map_cons, List.map_nil, ie] at hQ
  simp (maxSteps := 1000000) (disch := (first | omega | (simp only [lnA, List.length_map, List.length_range, true_and, and_true]; (try omega); done) | fail)) only [go_sem, Int.reduceEq, Int.reduceToNat, Nat.reduceAdd, Nat.reduceMul, Nat.reduceEqDiff, ↓reduceIte]
  refine callF (o) ?_
  simp (maxSteps := 1000000) (disch := (first | omega | (simp only [lnA, List.length_map, List.length_range, true_and, and_true]; (try omega); done) | fail)) only [go_sem, Int.reduceEq, Int.reduceToNat, Nat.reduceAdd, Nat.reduceMul, Nat.reduceEqDiff, ↓reduceIte]
  exact endW [] hQ
theorem numsA_fn {k a b n w X : Nat} : Fn1 Tryz.prog 24 [itA 0] [some (caC 1 k a b), some (vcC 2 n w), some (vcR n w X)] (.row 1 ((nl [k, a, b, n]).map (ie .i64))) [some (caC 1 k a b), some (vcC 2 n w), some (vcR n w X)] := by
  have o := ofReg_fn (k := k) (a := a) (b := b)
  have pa := cParam_fn (k := k) (a := a) (b := b) (n := n) (w := w) (X := X)
  have vl := vlen_fn (n := n) (w := w) (L := words (nwd n w) X)
  have hlw := words_len (nwd n w) X
  simp only [nl, List.map_cons, List.map_nil, ie] at o
  refine fn1N_of pl24 (by kernel_rfl) Tryz.call24 Tryz.func24 rfl (by kernel_rfl) rfl [.tmp 2] (by kernel_rfl) fun Q hQ => ?_
  simp only [nl, List.map_cons, List.map_nil, ie] at hQ
  simp (maxSteps := 1000000) (disch := (first | omega | (simp only [lnA, List.length_map, List.length_range, true_and, and_true]; (try omega); done) | fail)) only [go_sem, Int.reduceEq, Int.reduceToNat, Nat.reduceAdd, Nat.reduceMul, Nat.reduceEqDiff, ↓reduceIte]
  refine callT (pa) ?_
  simp (maxSteps := 1000000) (disch := (first | omega | (simp only [lnA, List.length_map, List.length_range, true_and, and_true]; (try omega); done) | fail)) only [go_sem, Int.reduceEq, Int.reduceToNat, Nat.reduceAdd, Nat.reduceMul, Nat.reduceEqDiff, ↓reduceIte]
  refine callF (o) ?_
  simp (maxSteps := 1000000) (disch := (first | omega | (simp only [lnA, List.length_map, List.length_range, true_and, and_true]; (try omega); done) | fail)) only [go_sem, Int.reduceEq, Int.reduceToNat, Nat.reduceAdd, Nat.reduceMul, Nat.reduceEqDiff, ↓reduceIte]
  refine callT (vl) ?_
  simp (maxSteps := 1000000) (disch := (first | omega | (simp only [lnA, List.length_map, List.length_range, true_and, and_true]; (try omega); done) | fail)) only [go_sem, Int.reduceEq, Int.reduceToNat, Nat.reduceAdd, Nat.reduceMul, Nat.reduceEqDiff, ↓reduceIte]
  exact endW [some 0, some 1, some 2] hQ
end Go.Proofs.YteookgjmohokiaaGreat
