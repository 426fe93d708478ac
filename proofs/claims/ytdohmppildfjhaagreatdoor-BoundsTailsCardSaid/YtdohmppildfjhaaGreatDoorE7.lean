import Derived.Test.YtdohmppildfjhaaGreatDoorE6
import Derived.Test.YtdohmppildfjhaaGreatDoorRows
import Derived.OpenShut
import Derived.MakeChecks
import Derived.FnData
namespace Go.Proofs.YtdohmppildfjhaaGreatDoor
open Go.Eng
set_option linter.unusedSimpArgs false
set_option linter.unusedVariables false

def bAt (L : List Bool) (i : Nat) : Nat := (L.getD i false).toNat
theorem bAt_le (L : List Bool) (i : Nat) : bAt L i ≤ 1 := by unfold bAt; cases L.getD i false <;> simp
def byteV (L : List Bool) (k : Nat) : Nat :=
 bAt L (8 * k) * 128 + bAt L (8 * k + 1) * 64 + bAt L (8 * k + 2) * 32 + bAt L (8 * k + 3) * 16 + bAt L (8 * k + 4) * 8 + bAt L (8 * k + 5) * 4 + bAt L (8 * k + 6) * 2 + bAt L (8 * k + 7)


def pkTo (L : List Bool) (m : Nat) : List Int := (List.range m).map fun k => (byteV L k : Int)
def pk (L : List Bool) : List Int := pkTo L ((L.length + 7) / 8)

def numBits (n : Nat) : Nat → List Bool
 | 0 => []
 | m + 1 => decide (n / 2 ^ m % 2 = 1) :: numBits n m
theorem numBits_len (n : Nat) : ∀ m, (numBits n m).length = m
 | 0 => rfl
 | m + 1 => by simp [numBits, numBits_len n m]
theorem numBits_get (n : Nat) : ∀ (m i : Nat) (h : i < m), (numBits n m)[i]'(by rw [numBits_len]; exact h) = decide (n / 2 ^ (m - 1 - i) % 2 = 1)
 | m + 1, 0, _ => by simp [numBits]
 | m + 1, i + 1, h => by
  simp only [numBits, List.getElem_cons_succ]
  rw [numBits_get n m i (by omega)]
  congr 5
  omega
def numOf (l : List Bool) : Nat := l.foldl (fun n b => 2 * n + b.toNat) 0
theorem numOf_lt (l : List Bool) : numOf l < 2 ^ l.length := by
 have aux : ∀ (l : List Bool) (n : Nat), l.foldl (fun n b => 2 * n + b.toNat) n < (n + 1) * 2 ^ l.length := by
  intro l
  induction l with
  | nil => intro n; simp
  | cons b l ih =>
   intro n
   have hb : b.toNat ≤ 1 := by cases b <;> simp
   have := ih (2 * n + b.toNat)
   simp only [List.foldl_cons, List.length_cons]
   refine Nat.lt_of_lt_of_le this ?_
   rw [Nat.pow_succ, Nat.mul_comm (2 ^ l.length) 2, ← Nat.mul_assoc]
   exact Nat.mul_le_mul_right _ (by omega)
 simpa [numOf] using aux l 0
def bitB (B : List Int) (p : Nat) : Bool := decide (B.getD (p / 8) 0 / 2 ^ (7 - p % 8) % 2 = 1)
def bitsOf (B : List Int) : List Bool := (List.range (8 * B.length)).map (bitB B)
theorem numOf_app (x y : List Bool) : numOf (x ++ y) = numOf x * 2 ^ y.length + numOf y := by
 have aux : ∀ (l : List Bool) (n : Nat), l.foldl (fun n b => 2 * n + b.toNat) n = n * 2 ^ l.length + l.foldl (fun n b => 2 * n + b.toNat) 0 := by
  intro l
  induction l with
  | nil => intro n; simp
  | cons b l ih =>
   intro n
   simp only [List.foldl_cons, List.length_cons]
   rw [ih (2 * n + b.toNat), ih (2 * 0 + b.toNat), Nat.pow_succ, Nat.add_mul, Nat.mul_zero, Nat.zero_add]
   rw [Nat.mul_comm (2 ^ l.length) 2, ← Nat.mul_assoc, Nat.mul_comm n 2]
   omega
 unfold numOf
 rw [List.foldl_append, aux]
def rX (L : List Bool) (p : Nat) (w : Int) : Nat × Nat × Int :=
 if 0 ≤ w ∧ w ≤ 64 then (if p + w.toNat ≤ L.length then (numOf ((L.drop p).take w.toNat), p + w.toNat, 0) else (0, p, 5)) else (0, p, 2)
theorem rX_le {L : List Bool} {p : Nat} {w : Int} (h : p ≤ L.length) : (rX L p w).2.1 ≤ L.length := by
 unfold rX; split
 ·
  split
  ·
   assumption
  ·
   exact h
 ·
  exact h
def closeX (L : List Bool) (p : Nat) : Int := if 8 ≤ L.length - p then 4 else if (L.drop p).any id = true then 4 else 0
structure PutN where
 n : Nat
 m : Int
instance : Inhabited PutN := ⟨⟨0, 0⟩⟩
def putOk (x : PutN) : Prop := 0 ≤ x.m ∧ x.m ≤ 64 ∧ x.n < 2 ^ x.m.toNat
instance (x : PutN) : Decidable (putOk x) := by unfold putOk; exact inferInstance
theorem numOf_numBits (n : Nat) : ∀ m, numOf (numBits n m) = n % 2 ^ m
 | 0 => by simp [numBits, numOf, Nat.mod_one]
 | m + 1 => by
  have e : numBits n (m + 1) = [decide (n / 2 ^ m % 2 = 1)] ++ numBits n m := rfl
  rw [e, numOf_app, numOf_numBits n m, numBits_len]
  have h1 : numOf [decide (n / 2 ^ m % 2 = 1)] = n / 2 ^ m % 2 := by
   have := Nat.mod_lt (n / 2 ^ m) (show 0 < 2 by decide)
   unfold numOf
   by_cases h : n / 2 ^ m % 2 = 1
   ·
    simp [h]
   ·
    simp [h]; omega
  rw [h1, Nat.pow_succ, Nat.mod_mul]
  rw [Nat.mul_comm (2 ^ m), Nat.add_comm]
def kb (K : List PutN) : List Bool := K.flatMap fun x => numBits x.n x.m.toNat
def bl (n : Nat) : Nat := if n = 0 then 0 else Nat.log2 n + 1
theorem bl_zero : bl 0 = 0 := rfl
theorem bl_lt (n : Nat) : n < 2 ^ bl n := by
 unfold bl
 split
 ·
  omega
 ·
  exact Nat.lt_log2_self
theorem bl_le {n : Nat} (h : n ≠ 0) : 2 ^ (bl n - 1) ≤ n := by
 unfold bl
 rw [if_neg h]
 exact Nat.log2_self_le h
theorem bl_pos {n : Nat} (h : n ≠ 0) : 0 < bl n := by unfold bl; rw [if_neg h]; omega
theorem bl_eq {n k : Nat} (h1 : 2 ^ k ≤ n) (h2 : n < 2 ^ (k + 1)) : bl n = k + 1 := by
 have hn : n ≠ 0 := by have := Nat.two_pow_pos k; omega
 unfold bl
 rw [if_neg hn]
 have a1 : k ≤ Nat.log2 n := (Nat.le_log2 hn).2 h1
 have a2 : Nat.log2 n < k + 1 := (Nat.log2_lt hn).2 h2
 omega
theorem bl_le_of {n k : Nat} (h : n < 2 ^ k) : bl n ≤ k := by
 by_cases hn : n = 0
 ·
  subst hn; simp [bl]
 ·
  have h1 := bl_le hn
  have : 2 ^ (bl n - 1) < 2 ^ k := Nat.lt_of_le_of_lt h1 h
  have := (Nat.pow_lt_pow_iff_right (show 1 < 2 by decide)).1 this
  omega
theorem bl_div {n k : Nat} (h : 2 ^ k ≤ n) : bl n = k + bl (n / 2 ^ k) := by
 have hp := Nat.two_pow_pos k
 have hq : n / 2 ^ k ≠ 0 := by
  intro h0
  have := (Nat.div_eq_zero_iff).1 h0
  omega
 have h1 := bl_le hq
 have h2 := bl_lt (n / 2 ^ k)
 have hb := bl_pos hq
 have e : bl n = (k + bl (n / 2 ^ k) - 1) + 1 := by
  apply bl_eq
  ·
   rw [show k + bl (n / 2 ^ k) - 1 = (bl (n / 2 ^ k) - 1) + k by omega, Nat.pow_add]
   exact (Nat.le_div_iff_mul_le hp).1 h1
  ·
   rw [show k + bl (n / 2 ^ k) - 1 + 1 = bl (n / 2 ^ k) + k by omega, Nat.pow_add]
   exact (Nat.div_lt_iff_lt_mul hp).1 h2
 omega
def gammaB (n : Nat) : List Bool := numBits 0 (bl n - 1) ++ numBits n (bl n)
def deltaB (n : Nat) : List Bool := gammaB (bl n) ++ numBits (n - 2 ^ (bl n - 1)) (bl n - 1)
def varB (n : Nat) : List Bool := if h : n < 128 then numBits n 8 else numBits (128 + n % 128) 8 ++ varB (n / 128)
termination_by n
decreasing_by omega
def bTo (L : List Bool) (j : Nat) : Nat → Nat
 | 0 => 0
 | k + 1 => 2 * bTo L j k + bAt L (8 * j + k)
def zl : List Bool → Nat
 | [] => 0
 | true :: _ => 0
 | false :: l => zl l + 1
def zr (L : List Bool) (p : Nat) : Nat := zl (L.drop p)
def gX (L : List Bool) (p : Nat) : Nat × Nat × Int :=
 if 64 ≤ zr L p then (0, p + 64, 4) else if L.length < p + 2 * zr L p + 1 then (0, (if p + zr L p < L.length then p + zr L p + 1 else p + zr L p), 5)
 else (2 ^ zr L p + numOf ((L.drop (p + zr L p + 1)).take (zr L p)), p + 2 * zr L p + 1, 0)
def gR (L : List Bool) (p : Nat) : Nat × Nat × Int :=
 if 64 ≤ zr L p then (0, p + 64, 4) else if L.length < p + 2 * zr L p + 1 then (0, p + zr L p, 5)
 else (2 ^ zr L p + numOf ((L.drop (p + zr L p + 1)).take (zr L p)), p + 2 * zr L p + 1, 0)
def dX (L : List Bool) (p : Nat) : Nat × Nat × Int :=
 if (gX L p).2.2 = 0 then (if 64 < (gX L p).1 then (0, (gX L p).2.1, 4) else
  if (gX L p).2.1 + ((gX L p).1 - 1) ≤ L.length then (2 ^ ((gX L p).1 - 1) + numOf ((L.drop (gX L p).2.1).take ((gX L p).1 - 1)), (gX L p).2.1 + ((gX L p).1 - 1), 0)
  else (0, (gX L p).2.1, 5)) else (0, (gX L p).2.1, (gX L p).2.2)
def dR (L : List Bool) (p : Nat) : Nat × Nat × Int :=
 if (dX L p).2.2 = 0 then dX L p else (0, p, (dX L p).2.2)
def vXj (L : List Bool) : Nat → Nat → Nat → Nat → Nat × Nat × Int
 | 0, _, p, _ => (0, p, 4)
 | j + 1, i, p, a =>
  if (rX L p 8).2.2 = 0 then
   (if (i = 9 ∧ 1 < (rX L p 8).1 % 128) ∨ (0 < i ∧ (rX L p 8).1 = 0) then (0, (rX L p 8).2.1, 4)
    else if (rX L p 8).1 < 128 then (a + (rX L p 8).1 % 128 * 2 ^ (7 * i), (rX L p 8).2.1, 0)
    else vXj L j (i + 1) (rX L p 8).2.1 (a + (rX L p 8).1 % 128 * 2 ^ (7 * i)))
  else (0, (rX L p 8).2.1, 5)
def vX (L : List Bool) (p : Nat) : Nat × Nat × Int := vXj L 10 0 p 0
def cat (f : Nat → List Bool) : Nat → List Bool
 | 0 => []
 | i + 1 => cat f i ++ f i
def piece (k : Int) (x : Nat) : List Bool := if k = 0 then gammaB x else if k = 1 then deltaB x else varB x
def packN (w : Nat) : List Nat → Nat
 | [] => 0
 | x :: l => x + 2 ^ w * packN w l
def words (m X : Nat) : List Int := (List.range m).map fun k => ((X / 2 ^ (64 * k) % 2 ^ 64 : Nat) : Int)
def wordOf (X k : Nat) : Nat := X / 2 ^ (64 * k) % 2 ^ 64
def SetBits (X Y p w n : Nat) : Prop := ∀ j, Y.testBit j = if p ≤ j ∧ j < p + w then n.testBit (j - p) else X.testBit j
theorem wrap_nat (y : Nat) : IntKind.u64.wrap (y : Int) = ((y % 2 ^ 64 : Nat) : Int) := by
 unfold IntKind.wrap
 have e : IntKind.u64.bits = 64 := rfl
 have e2 : IntKind.u64.signed = false := rfl
 rw [e, e2]
 simp
theorem wrap_mul (x k : Nat) : IntKind.u64.wrap ((x : Int) * 2 ^ k) = ((x * 2 ^ k % 2 ^ 64 : Nat) : Int) := by
 rw [show ((x : Int) * 2 ^ k) = ((x * 2 ^ k : Nat) : Int) by simp, wrap_nat]
theorem div_nat (x k : Nat) : (x : Int) / 2 ^ k = ((x / 2 ^ k : Nat) : Int) := by simp
def nl (N : List Nat) : List Int := N.map fun n : Nat => (n : Int)
theorem nl_len (N : List Nat) : (nl N).length = N.length := by simp [nl]
theorem nl_get (N : List Nat) (i : Nat) : (nl N).getD i 0 = ((N.getD i 0 : Nat) : Int) := by
 simp only [nl, List.getD_eq_getElem?_getD, List.getElem?_map]
 cases N[i]? <;> rfl
theorem nl_set (N : List Nat) (i x : Nat) : (nl N).set i (x : Int) = nl (N.set i x) := by simp [nl, List.map_set]
theorem nl_rep (n : Nat) : List.replicate n (0 : Int) = nl (List.replicate n 0) := by simp [nl]
def nwd (n w : Nat) : Nat := (n * w + 63) / 64
theorem getD_set_ne {L : List Int} {k j : Nat} {x : Int} (h : k ≠ j) : (L.set k x).getD j 0 = L.getD j 0 := by simp only [List.getD_eq_getElem?_getD]; rw [List.getElem?_set_ne h]
def wbits (w : Nat) (N : List Nat) : List Bool := N.flatMap fun x => numBits x w
theorem wbits_app (w : Nat) (N M : List Nat) : wbits w (N ++ M) = wbits w N ++ wbits w M := by simp [wbits]
theorem numBits_add (a r m : Nat) : numBits (a * 2 ^ m + r) m = numBits r m := by
 apply List.ext_getElem (by rw [numBits_len, numBits_len])
 intro i h1 h2
 rw [numBits_len] at h1
 rw [numBits_get _ _ _ h1, numBits_get _ _ _ h1, decide_eq_decide]
 have e : a * 2 ^ m + r = r + 2 ^ (m - 1 - i) * (2 ^ i * a * 2) := by
  have : 2 ^ m = 2 ^ (m - 1 - i) * 2 ^ i * 2 := by rw [← Nat.pow_add, ← Nat.pow_succ]; congr 1; omega
  rw [this, Nat.add_comm]
  congr 1
  simp only [Nat.mul_assoc, Nat.mul_comm, Nat.mul_left_comm]
 rw [e, Nat.add_mul_div_left _ _ (Nat.two_pow_pos _), Nat.add_mul_mod_self_right]
theorem numBits_numOf : ∀ l : List Bool, numBits (numOf l) l.length = l
 | [] => rfl
 | x :: l => by
  have ih := numBits_numOf l
  have hl := numOf_lt l
  have e : numOf (x :: l) = x.toNat * 2 ^ l.length + numOf l := by
   have := numOf_app [x] l
   simpa [numOf] using this
  show decide (numOf (x :: l) / 2 ^ l.length % 2 = 1) :: numBits (numOf (x :: l)) l.length = x :: l
  rw [e, numBits_add, ih]
  congr 1
  rw [Nat.mul_comm, Nat.mul_add_div (Nat.two_pow_pos _), Nat.div_eq_of_lt hl]
  cases x <;> simp
def chunk (L : List Bool) (p w n : Nat) : List Nat := (List.range n).map fun i => numOf ((L.drop (p + i * w)).take w)
theorem chunk_succ (L : List Bool) (p w n : Nat) : chunk L p w (n + 1) = chunk L p w n ++ [numOf ((L.drop (p + n * w)).take w)] := by simp [chunk, List.range_succ]
open Go.Eng Go.Vx Go.ChangeShapes
set_option maxRecDepth 100000
theorem laidVars_mem {P : Program} {w : World} : ∀ {l : List (String × DataW Unit)} {ps : List MemPlace}, DataW.LaidVars P w l ps → ∀ {n : String} {d : DataW Unit}, (n, d) ∈ l →
  ∃ g t cs fuel p, P.globalNamed n = some g ∧ (P.globals[g]?).map (·.type) = some t ∧ w.var? P n = some cs ∧ DataW.trod (fun _ => ()) P w 0 (fun _ => true) false fuel t cs.toList = some (d, p)
 | [], _, _, _, _, h => by simp at h
 | (m, e) :: r, ps, h, n, d, hm => by
  obtain ⟨g, t, cs, fuel, p, q, h1, h2, h3, h4, h5, _⟩ := h
  rcases List.mem_cons.1 hm with e' | h'
  ·
   cases e'
   exact ⟨g, t, cs, fuel, p, h1, h2, h3, h4⟩
  ·
   exact laidVars_mem h5 h'
def pow10D : DataW Unit := .agg ((List.range 20).map fun i => .lit (.int .u64 ((10 ^ i : Nat) : Int)))
theorem lay_of {W : World} {l : List (String × DataW Unit)} (hpl : (l.all fun x => x.2.handleName?.isNone) = true) (hm : ("internal/strconv.uint64pow10", pow10D) ∈ l) (hL : laidMetH Tryz.prog l W) : LayOk W (fun b => b < W.heap.size) := by
 rw [MakeChecks.laidMetH_plain _ _ _ hpl] at hL
 obtain ⟨ps, hv, _⟩ := hL
 obtain ⟨g, t, cs, fuel, p, h1, h2, h3, h4⟩ := laidVars_mem hv hm
 obtain rfl := Option.some.inj ((show Tryz.prog.globalNamed "internal/strconv.uint64pow10" = some 2 by kernel_rfl).symm.trans h1)
 obtain rfl := Option.some.inj ((show (Tryz.prog.globals[2]?).map (·.type) = some 184 by kernel_rfl).symm.trans h2)
 have hu : Tryz.prog.underlying 184 = some (.array 20 110) := by kernel_rfl
 have he : Tryz.prog.underlying 110 = some (.int .u64) := by kernel_rfl
 have hc : Tryz.prog.cellsOf 110 = 1 := by kernel_rfl
 have hct : Tryz.prog.cellsOf 184 = 20 := by kernel_rfl
 obtain ⟨xs, m, _, hx, hlen, hn, hel⟩ := DataW.trod_array hu h4
 rw [hct] at hlen
 simp only [Prod.mk.injEq] at hx
 have hxs : xs.map (·.1) = (List.range 20).map fun i => (DataW.lit (.int .u64 ((10 ^ i : Nat) : Int)) : DataW Unit) := by
  have := hx.1
  unfold pow10D at this
  simpa using this.symm
 have key : ∀ i, i < 20 → cs.toList[i]? = some (.int .u64 ((10 ^ i : Nat) : Int)) := by
  intro i hi
  have h5 := hel i hi
  rw [hc, Nat.mul_one] at h5
  have hxi : xs[i]? = some (xs[i]'(by omega)) := List.getElem?_eq_getElem _
  rw [hxi] at h5
  obtain ⟨k, e1, e2, _⟩ := DataW.trod_int he h5
  have h6 : (xs.map (·.1))[i]? = some (DataW.lit (.int .u64 ((10 ^ i : Nat) : Int))) := by
   rw [hxs, List.getElem?_map, List.getElem?_range hi]; rfl
  rw [List.getElem?_map, hxi, Option.map_some] at h6
  have h7 := Option.some.inj h6
  rw [e2] at h7
  have hk : k = ((10 ^ i : Nat) : Int) := by
   injection h7 with h8
   injection h8
  have h8 := congrArg (fun l => l[0]?) e1
  simp only [List.getElem?_take, List.getElem?_drop] at h8
  rw [hk] at h8
  simpa using h8
 have cell : ∀ i, i < 20 → W.cell? ⟨2, i, none⟩ = some (.int .u64 ((10 ^ i : Nat) : Int)) := by
  intro i hi
  rw [World.var?_cell h1 h3 i, ← key i hi]
  simp
 intro e hem
 simp only [layT, List.mem_singleton] at hem
 subst hem
 refine ⟨World.block_lt_of_cell? _ _ (cell 0 (by decide)), fun _ => rfl, fun i hi => ?_⟩
 have hi' : i < 20 := by simpa using hi
 have := cell i hi'
 show W.cell? ⟨2, 0 + i, none⟩ = _
 rw [Nat.zero_add, this]
 simp
theorem layK_pow {m : Nat} {F : Value → Prop} (hm : m < 20) : layK 2 m F = F (.int .u64 ((10 ^ m : Nat) : Int)) := by
 unfold layK layAt layT
 simp [List.find?, hm, oneC]
end Go.Proofs.YtdohmppildfjhaaGreatDoor
