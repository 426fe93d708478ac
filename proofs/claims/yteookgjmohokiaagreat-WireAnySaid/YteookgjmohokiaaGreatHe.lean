import Derived.Test.YteookgjmohokiaaGreatId
import Derived.Test.YteookgjmohokiaaGreatWj
import Derived.Test.YteookgjmohokiaaGreatE6
import Derived.Test.YteookgjmohokiaaGreatE7
import Derived.Test.YteookgjmohokiaaGreatE8
import Derived.Test.YteookgjmohokiaaGreatAb
import Derived.Test.YteookgjmohokiaaGreatHb
import Derived.Test.YteookgjmohokiaaGreatNp
namespace Go.Proofs.YteookgjmohokiaaGreat
open Go.Eng Go.Vx
set_option linter.unusedSimpArgs false
set_option linter.unusedVariables false
set_option maxRecDepth 100000
def goodC (R C k a b : Int) : Prop := (1 ≤ R ∧ R ≤ 4 ∧ 1 ≤ C ∧ C ≤ 64) ∧ goodI k a b
theorem cmCheck_fn {R C : Int} {k a b : Nat} (h : 1 ≤ R ∧ R ≤ 4 ∧ 1 ≤ C ∧ C ≤ 64) (hg : goodN k a b) : Fn1 Tryz.prog 86 [.agg [.lit (.int .i64 R), .lit (.int .i64 C), .lit (.int .i64 (k : Int)), .lit (.int .i64 (a : Int)), .lit (.int .i64 (b : Int))]] [] (.lit (.int .i64 0)) [] := by
  have rc := rCheck_fn hg
  obtain ⟨h1, h2, h3, h4⟩ := h
  refine fn1N_of pl86 (by kernel_rfl) Tryz.call86 Tryz.func86 rfl (by kernel_rfl) rfl [.tmp 2] (by kernel_rfl) fun Q hQ => ?_
  simp (maxSteps := 1000000) (disch := (first | omega | (simp only [lnA, List.length_map, List.length_range, true_and, and_true]; (try omega); done) | fail)) only [go_sem, Int.reduceEq, Int.reduceToNat, Nat.reduceAdd, Nat.reduceMul, Nat.reduceEqDiff, ↓reduceIte]
  refine callV0 (rc) rfl rfl ?_
  simp (maxSteps := 1000000) (disch := (first | omega | (simp only [lnA, List.length_map, List.length_range, true_and, and_true]; (try omega); done) | fail)) only [go_sem, Int.reduceEq, Int.reduceToNat, Nat.reduceAdd, Nat.reduceMul, Nat.reduceEqDiff, ↓reduceIte]
  exact endW [] hQ
theorem cmCheckB_fn {R C k a b : Int} (h : ¬ goodC R C k a b) : Fn1 Tryz.prog 86 [.agg [.lit (.int .i64 R), .lit (.int .i64 C), .lit (.int .i64 k), .lit (.int .i64 a), .lit (.int .i64 b)]] [] (.lit (.int .i64 10)) [] := by
  refine fn1N_of pl86 (by kernel_rfl) Tryz.call86 Tryz.func86 rfl (by kernel_rfl) rfl [.tmp 2] (by kernel_rfl) fun Q hQ => ?_
  by_cases h1 : R < 1
  · simp (maxSteps := 1000000) (disch := (first | omega | (simp only [lnA, List.length_map, List.length_range, true_and, and_true]; (try omega); done) | fail)) only [go_sem, Int.reduceEq, Int.reduceToNat, Nat.reduceAdd, Nat.reduceMul, Nat.reduceEqDiff, ↓reduceIte]
    exact endW [] hQ
  · by_cases h2 : 4 < R
    · simp (maxSteps := 1000000) (disch := (first | omega | (simp only [lnA, List.length_map, List.length_range, true_and, and_true]; (try omega); done) | fail)) only [go_sem, Int.reduceEq, Int.reduceToNat, Nat.reduceAdd, Nat.reduceMul, Nat.reduceEqDiff, ↓reduceIte]
      exact endW [] hQ
    · by_cases h3 : C < 1
      · simp (maxSteps := 1000000) (disch := (first | omega | (simp only [lnA, List.length_map, List.length_range, true_and, and_true]; (try omega); done) | fail)) only [go_sem, Int.reduceEq, Int.reduceToNat, Nat.reduceAdd, Nat.reduceMul, Nat.reduceEqDiff, ↓reduceIte]
        exact endW [] hQ
      · by_cases h4 : 64 < C
        · simp (maxSteps := 1000000) (disch := (first | omega | (simp only [lnA, List.length_map, List.length_range, true_and, and_true]; (try omega); done) | fail)) only [go_sem, Int.reduceEq, Int.reduceToNat, Nat.reduceAdd, Nat.reduceMul, Nat.reduceEqDiff, ↓reduceIte]
          exact endW [] hQ
        · have rc := rCheckB_fn (k := k) (a := a) (b := b) (fun hg => h ⟨⟨by omega, by omega, by omega, by omega⟩, hg⟩)
          simp (maxSteps := 1000000) (disch := (first | omega | (simp only [lnA, List.length_map, List.length_range, true_and, and_true]; (try omega); done) | fail)) only [go_sem, Int.reduceEq, Int.reduceToNat, Nat.reduceAdd, Nat.reduceMul, Nat.reduceEqDiff, ↓reduceIte]
          refine callV0 (rc) rfl rfl ?_
          simp (maxSteps := 1000000) (disch := (first | omega | (simp only [lnA, List.length_map, List.length_range, true_and, and_true]; (try omega); done) | fail)) only [go_sem, Int.reduceEq, Int.reduceToNat, Nat.reduceAdd, Nat.reduceMul, Nat.reduceEqDiff, ↓reduceIte]
          exact endW [] hQ
theorem hCheck_fn {A B : Nat} : Fn1 Tryz.prog 88 [.agg [.lit (.int .u64 (A : Int)), .lit (.int .u64 (B : Int))]] [] (.lit (.int .i64 (if A < 2305843009213693951 ∧ B < 2305843009213693951 then 0 else 2))) [] := by
  refine fn1N_of pl88 (by kernel_rfl) Tryz.call88 Tryz.func88 rfl (by kernel_rfl) rfl [.tmp 2] (by kernel_rfl) fun Q hQ => ?_
  by_cases h1 : A < 2305843009213693951
  · by_cases h2 : B < 2305843009213693951
    · rw [if_pos ⟨h1, h2⟩] at hQ
      simp (maxSteps := 1000000) (disch := (first | omega | (simp only [lnA, List.length_map, List.length_range, true_and, and_true]; (try omega); done) | fail)) only [go_sem, Int.reduceEq, Int.reduceToNat, Nat.reduceAdd, Nat.reduceMul, Nat.reduceEqDiff, ↓reduceIte]
      exact endW [] hQ
    · rw [if_neg (fun h => h2 h.2)] at hQ
      simp (maxSteps := 1000000) (disch := (first | omega | (simp only [lnA, List.length_map, List.length_range, true_and, and_true]; (try omega); done) | fail)) only [go_sem, Int.reduceEq, Int.reduceToNat, Nat.reduceAdd, Nat.reduceMul, Nat.reduceEqDiff, ↓reduceIte]
      exact endW [] hQ
  · rw [if_neg (fun h => h1 h.1)] at hQ
    simp (maxSteps := 1000000) (disch := (first | omega | (simp only [lnA, List.length_map, List.length_range, true_and, and_true]; (try omega); done) | fail)) only [go_sem, Int.reduceEq, Int.reduceToNat, Nat.reduceAdd, Nat.reduceMul, Nat.reduceEqDiff, ↓reduceIte]
    exact endW [] hQ
theorem cNewB_fn {k a b n : Int} (h : ¬ goodI k a b) : Fn1 Tryz.prog 33 [.agg [.lit (.int .i64 k), .lit (.int .i64 a), .lit (.int .i64 b)], .lit (.int .i64 n)] [] (.tup [.lit (.pointer none), .lit (.int .i64 10)]) [] := by
  have rc := rCheckB_fn h
  refine fn1N_of pl33 (by kernel_rfl) Tryz.call33 Tryz.func33 rfl (by kernel_rfl) rfl [.tmp 4, .tmp 5] (by kernel_rfl) fun Q hQ => ?_
  simp (maxSteps := 1000000) (disch := (first | omega | (simp only [lnA, List.length_map, List.length_range, true_and, and_true]; (try omega); done) | fail)) only [go_sem, Int.reduceEq, Int.reduceToNat, Nat.reduceAdd, Nat.reduceMul, Nat.reduceEqDiff, ↓reduceIte]
  refine callV0 (rc) rfl rfl ?_
  simp (maxSteps := 1000000) (disch := (first | omega | (simp only [lnA, List.length_map, List.length_range, true_and, and_true]; (try omega); done) | fail)) only [go_sem, Int.reduceEq, Int.reduceToNat, Nat.reduceAdd, Nat.reduceMul, Nat.reduceEqDiff, ↓reduceIte]
  exact endW [] hQ
end Go.Proofs.YteookgjmohokiaaGreat

namespace Go.Proofs.YteookgjmohokiaaGreat
open Go.Eng Go.Vx
set_option linter.unusedSimpArgs false
set_option linter.unusedVariables false
set_option maxRecDepth 100000
theorem bytesR_fn {L : List Bool} (hm : L.length < 1099511627776) : Fn1 Tryz.prog 32 [.ref 0 0 0 0] [some (wrC 1 L), some (wrR L)] (.row 1 ((pk L).map (ie .u8))) [some (wrC 1 L), some (wrR L)] := by
  refine fn1N_of pl32 (by kernel_rfl) Tryz.call32 Tryz.func32 rfl (by kernel_rfl) rfl [.tmp 2] (by kernel_rfl) fun Q hQ => ?_
  have hpl := pk_len L
  have e : List.take 0 (List.replicate (pk L).length (0 : Int)) ++ List.take (pk L).length (pk L) ++ List.drop (List.take (pk L).length (pk L)).length (List.replicate (pk L).length 0) = pk L := by simp
  simp (maxSteps := 1000000) (disch := (first | omega | (simp only [lnA, List.length_map, List.length_range, true_and, and_true]; (try omega); done) | fail)) only [go_sem, Int.reduceEq, Int.reduceToNat, Nat.reduceAdd, Nat.reduceMul, Nat.reduceEqDiff, ↓reduceIte]
  rw [e]
  exact endW [some 0, some 1] hQ
def three (k x : Nat) : List Bool := numBits x (k + 1) ++ deltaB (x ||| 1) ++ varB x
end Go.Proofs.YteookgjmohokiaaGreat

namespace Go.Proofs.YteookgjmohokiaaGreat
open Go.Eng Go.Vx
set_option linter.unusedSimpArgs false
set_option linter.unusedVariables false
set_option maxRecDepth 100000
def pkb (L : List Bool) : List Nat := (List.range ((L.length + 7) / 8)).map (byteV L)
theorem pk_nl (L : List Bool) : pk L = nl (pkb L) := by
  unfold pk pkTo pkb nl
  rw [List.map_map]
  rfl
theorem pkb_lt (L : List Bool) : ∀ x ∈ pkb L, x < 256 := fun x hx => by
  obtain ⟨j, _, rfl⟩ := List.mem_map.1 hx
  exact byteV_lt L j
theorem pkb_len (L : List Bool) : (pkb L).length = (L.length + 7) / 8 := by simp [pkb]
def hdB (t : Nat) : List Bool := numBits 1 4 ++ numBits t 3
def gms (N : List Nat) : List Bool := N.flatMap fun n => gammaB (n + 1)
theorem gms_app (N M : List Nat) : gms (N ++ M) = gms N ++ gms M := by simp [gms]
theorem gms_take {N : List Nat} {i : Nat} (h : i < N.length) : gms (N.take (i + 1)) = gms (N.take i) ++ gammaB (N.getD i 0 + 1) := by
  rw [take_succ_N h, gms_app]; simp [gms]
theorem gms_len : ∀ {N : List Nat}, (∀ n ∈ N, n ≤ 1048576) → (gms N).length ≤ N.length * 41
  | [], _ => Nat.le_refl _
  | n :: N, h => by
    have ih := gms_len (N := N) fun m hm => h m (by simp [hm])
    have hg := gammaB_len (n := n + 1) (by omega)
    have hb := bl_le_of (n := n + 1) (k := 21) (by have := h n (by simp); omega)
    show (gammaB (n + 1) ++ gms N).length ≤ _
    rw [List.length_append, List.length_cons]
    omega
def itR (k a b : Nat) (s : Nat × Nat × Bool) : V := .agg [.lit (.int .i64 1), .lit (.int .i64 (k : Int)), .lit (.int .i64 (a : Int)), .lit (.int .i64 (b : Int)), .lit (.int .i64 (s.1 : Int)), .lit (.int .i64 (s.2.1 : Int)), .lit (.bool s.2.2), .lit (.pointer none), .lit (.pointer none), .lit (.pointer none), .lit (.pointer none)]
def itA (v : Nat) : V := .agg [.lit (.int .i64 2), .lit (.int .i64 0), .lit (.int .i64 0), .lit (.int .i64 0), .lit (.int .i64 0), .lit (.int .i64 0), .lit (.bool false), .ref v 0 0 0, .lit (.pointer none), .lit (.pointer none), .lit (.pointer none)]
attribute [go_sem] itR itA
@[go_sem] theorem pnO_3 {z : Nat} {a b c : Value} : pnO (.row z [[.lit a], [.lit b], [.lit c]]) = True := eq_true fun e he p hp => by
  rcases List.mem_cons.1 he with rfl | he
  · rw [List.mem_singleton.1 hp]; rfl
  rcases List.mem_cons.1 he with rfl | he
  · rw [List.mem_singleton.1 hp]; rfl
  rw [List.mem_singleton.1 he] at hp
  rw [List.mem_singleton.1 hp]; rfl
theorem ofReg_fn {k a b : Nat} : Fn1 Tryz.prog 46 [pR k a b] [] (.sl 0 1 0 3) [some (.row 1 ((nl [k, a, b]).map (ie .i64)))] := by
  refine fn1N_of pl46 (by kernel_rfl) Tryz.call46 Tryz.func46 rfl (by kernel_rfl) rfl [.tmp 2] (by kernel_rfl) fun Q hQ => ?_
  simp only [nl, List.map_cons, List.map_nil, ie] at hQ
  simp (maxSteps := 1000000) (disch := (first | omega | (simp only [lnA, List.length_map, List.length_range, true_and, and_true]; (try omega); done) | fail)) only [go_sem, Int.reduceEq, Int.reduceToNat, Nat.reduceAdd, Nat.reduceMul, Nat.reduceEqDiff, ↓reduceIte]
  exact endW [some 1] hQ
theorem gReg_fn {k a b : Nat} {s : Nat × Nat × Bool} (h : goodN k a b) (w : wellN k a b s) : Fn1 Tryz.prog 41 [itR k a b s] [] (.lit (.bool true)) [] := by
  have rw' := rWell_fn h w
  refine fn1N_of pl41 (by kernel_rfl) Tryz.call41 Tryz.func41 rfl (by kernel_rfl) rfl [.tmp 2] (by kernel_rfl) fun Q hQ => ?_
  simp (maxSteps := 1000000) (disch := (first | omega | (simp only [lnA, List.length_map, List.length_range, true_and, and_true]; (try omega); done) | fail)) only [go_sem, Int.reduceEq, Int.reduceToNat, Nat.reduceAdd, Nat.reduceMul, Nat.reduceEqDiff, ↓reduceIte]
  refine callV0 (rw') rfl rfl ?_
  simp (maxSteps := 1000000) (disch := (first | omega | (simp only [lnA, List.length_map, List.length_range, true_and, and_true]; (try omega); done) | fail)) only [go_sem, Int.reduceEq, Int.reduceToNat, Nat.reduceAdd, Nat.reduceMul, Nat.reduceEqDiff, ↓reduceIte]
  exact endW [] hQ
theorem ckReg_fn {k a b : Nat} {s : Nat × Nat × Bool} (h : goodN k a b) (w : wellN k a b s) : Fn1 Tryz.prog 18 [itR k a b s] [] (.lit (.int .i64 0)) [] := by
  have g := gReg_fn h w
  refine fn1N_of pl18 (by kernel_rfl) Tryz.call18 Tryz.func18 rfl (by kernel_rfl) rfl [.tmp 2] (by kernel_rfl) fun Q hQ => ?_
  simp (maxSteps := 1000000) (disch := (first | omega | (simp only [lnA, List.length_map, List.length_range, true_and, and_true]; (try omega); done) | fail)) only [go_sem, Int.reduceEq, Int.reduceToNat, Nat.reduceAdd, Nat.reduceMul, Nat.reduceEqDiff, ↓reduceIte]
  refine callV0 (g) rfl rfl ?_
  simp (maxSteps := 1000000) (disch := (first | omega | (simp only [lnA, List.length_map, List.length_range, true_and, and_true]; (try omega); done) | fail)) only [go_sem, Int.reduceEq, Int.reduceToNat, Nat.reduceAdd, Nat.reduceMul, Nat.reduceEqDiff, ↓reduceIte]
  exact endW [] hQ
theorem numsR_fn {k a b : Nat} {s : Nat × Nat × Bool} : Fn1 Tryz.prog 24 [itR k a b s] [] (.row 1 ((nl [k, a, b]).map (ie .i64))) [] := by
  have o := ofReg_fn (k := k) (a := a) (b := b)
  simp only [nl, List.map_cons, List.map_nil, ie] at o
  refine fn1N_of pl24 (by kernel_rfl) Tryz.call24 Tryz.func24 rfl (by kernel_rfl) rfl [.tmp 2] (by kernel_rfl) fun Q hQ => ?_
  simp only [nl, List.map_cons, List.map_nil, ie] at hQ
  simp (maxSteps := 1000000) (disch := (first | omega | (simp only [lnA, List.length_map, List.length_range, true_and, and_true]; (try omega); done) | fail)) only [go_sem, Int.reduceEq, Int.reduceToNat, Nat.reduceAdd, Nat.reduceMul, Nat.reduceEqDiff, ↓reduceIte]
  refine callF (o) ?_
  simp (maxSteps := 1000000) (disch := (first | omega | (simp only [lnA, List.length_map, List.length_range, true_and, and_true]; (try omega); done) | fail)) only [go_sem, Int.reduceEq, Int.reduceToNat, Nat.reduceAdd, Nat.reduceMul, Nat.reduceEqDiff, ↓reduceIte]
  exact endW [] hQ
end Go.Proofs.YteookgjmohokiaaGreat

namespace Go.Proofs.YteookgjmohokiaaGreat
open Go.Eng Go.Vx
set_option linter.unusedSimpArgs false
set_option linter.unusedVariables false
set_option maxRecDepth 100000
def smN (k a b : Nat) : Prop := (k = 1 ∧ 1 ≤ a ∧ a ≤ 4 ∧ 1 ≤ b ∧ b ≤ 4) ∨ (k = 2 ∧ a ≤ 1 ∧ 1 ≤ b ∧ b ≤ 4) ∨ (k = 3 ∧ 1 ≤ a ∧ a ≤ 2 ∧ 1 ≤ b ∧ b ≤ 4) ∨ (k = 4 ∧ 1 ≤ a ∧ a ≤ 8 ∧ b ≤ 3)
def wi (k a b : Nat) (s : Int × Int × Bool) : Nat × Nat × Bool :=
  if k = 4 then ((s.1 % 8).toNat % (a + 1), (s.2.1 % 4).toNat % (b + 1), s.2.2 && decide ((s.2.1 % 4).toNat % (b + 1) = b))
  else ((s.1 % 16).toNat % (2 ^ b - 1 + 1), 0, s.2.2 && decide ((s.1 % 16).toNat % (2 ^ b - 1 + 1) = 2 ^ b - 1))
end Go.Proofs.YteookgjmohokiaaGreat
