import Derived.Test.YtdohmppildfjhaaGreatDoorE2
import Derived.Test.YtdohmppildfjhaaGreatDoorE1
import Derived.Below
import Derived.Test.YtdohmppildfjhaaGreatDoorVl
import Derived.Test.YtdohmppildfjhaaGreatDoorVFacts
import Derived.Deep.Slices
import Derived.OpenShut
import Derived.ChangeArms
import Derived.WideShapes
namespace Go.Eng
set_option linter.unusedSimpArgs false
set_option linter.unusedVariables false

def u8v (b : UInt8) : Value := .int .u8 (b.toNat : Int)
theorem Row.get {α : Type} [Inhabited α] {enc : α → Value} {w : World} {a : Option Addr} {l : List α} (h : Row w a (l.map enc)) {m : Nat} (hm : m < l.length) (F : Bool → Value → Prop) :
  Eng.cellK w ⟨ab a, ao a + m, none⟩ F = F true (enc (l.getD m default)) := by
 rw [h.cellK (m := m) (by simpa using hm)]
 simp [List.getD_eq_getElem?_getD, List.getElem?_eq_getElem hm]

theorem bitN (op : BinOp) (k : IntKind) (B : Nat) (hB : k.bits = B) (hs : k.signed = false) (x y : Nat) (hx : x < 2 ^ B) (hy : y < 2 ^ B) :
  bitK .xor k (x : Int) (y : Int) = ((x ^^^ y : Nat) : Int) ∧ bitK .and k (x : Int) (y : Int) = ((x &&& y : Nat) : Int) ∧ bitK .or k (x : Int) (y : Int) = ((x ||| y : Nat) : Int) := by
 subst hB
 have hw : ∀ z : Nat, z < 2 ^ k.bits → k.wrap (z : Int) = (z : Int) := fun z hz => by
  unfold IntKind.wrap
  rw [hs]
  have : ((z : Int) % (2 ^ k.bits : Int)) = z := Int.emod_eq_of_lt (by omega) (by exact_mod_cast hz)
  simp [this]
 have e1 : (BitVec.ofInt k.bits (x : Int) ^^^ BitVec.ofInt k.bits (y : Int)).toNat = x ^^^ y := by
  rw [BitVec.toNat_xor, BitVec.ofInt_natCast, BitVec.ofInt_natCast, BitVec.toNat_ofNat, BitVec.toNat_ofNat, Nat.mod_eq_of_lt hx, Nat.mod_eq_of_lt hy]
 have e2 : (BitVec.ofInt k.bits (x : Int) &&& BitVec.ofInt k.bits (y : Int)).toNat = x &&& y := by
  rw [BitVec.toNat_and, BitVec.ofInt_natCast, BitVec.ofInt_natCast, BitVec.toNat_ofNat, BitVec.toNat_ofNat, Nat.mod_eq_of_lt hx, Nat.mod_eq_of_lt hy]
 have e3 : (BitVec.ofInt k.bits (x : Int) ||| BitVec.ofInt k.bits (y : Int)).toNat = x ||| y := by
  rw [BitVec.toNat_or, BitVec.ofInt_natCast, BitVec.ofInt_natCast, BitVec.toNat_ofNat, BitVec.toNat_ofNat, Nat.mod_eq_of_lt hx, Nat.mod_eq_of_lt hy]
 refine ⟨?_, ?_, ?_⟩
 ·
  show k.wrap ((BitVec.ofInt k.bits (x : Int) ^^^ BitVec.ofInt k.bits (y : Int)).toNat : Int) = _
  rw [e1]; exact hw _ (Nat.xor_lt_two_pow hx hy)
 ·
  show k.wrap ((BitVec.ofInt k.bits (x : Int) &&& BitVec.ofInt k.bits (y : Int)).toNat : Int) = _
  rw [e2]; exact hw _ (Nat.and_lt_two_pow _ hy)
 ·
  show k.wrap ((BitVec.ofInt k.bits (x : Int) ||| BitVec.ofInt k.bits (y : Int)).toNat : Int) = _
  rw [e3]; exact hw _ (Nat.or_lt_two_pow hx hy)
theorem or_u64 {x y : Nat} (hx : x < 18446744073709551616) (hy : y < 18446744073709551616) : bitK .or .u64 (x : Int) (y : Int) = ((x ||| y : Nat) : Int) := (bitN .xor .u64 64 rfl rfl x y hx hy).2.2

end Go.Eng

namespace Go.Proofs.YtdohmppildfjhaaGreatDoor
open Go.Eng
open Go.RowKit
set_option linter.unusedSimpArgs false
set_option linter.unusedVariables false

theorem toBelow {w w' : World} (h : Ext [] w w') : Below w.heap.size w w' := ⟨h.os, h.tape, h.output, h.size, fun k hk => h.block k hk (by simp)⟩
theorem cell_spot {w : World} {x : Addr} {v : Value} (h : w.cell? x = some v) : x.spot = none := by
 unfold World.cell? at h
 split at h
 ·
  split at h
  ·
   simp at h
  ·
   rename_i hn; simpa using hn
 ·
  simp at h
theorem row_cells {w : World} {x : Addr} {cs : List Value} (h : ∀ i (hi : i < cs.length), w.cell? (x.add i) = some cs[i]) : Row w (some x) cs := by
 have hs : 0 < cs.length → x = ⟨x.block, x.off, none⟩ := fun h0 => by
  have := cell_spot (h 0 h0)
  cases x
  simpa [Addr.add] using this
 refine ⟨fun h0 => congrArg some (hs h0), fun i hi => ?_⟩
 have h1 := h i hi
 have h2 := hs (by omega)
 have : x.add i = ⟨x.block, x.off + i, none⟩ := by rw [h2]; simp [Addr.add]
 rw [this] at h1
 exact h1
theorem wf_bounds {k : IntKind} {n : Int} (h : (Lit.int k n).wf = true) : k.min ≤ n ∧ n ≤ k.max := by
 have h' : (decide (k.min ≤ n) && decide (n ≤ k.max)) = true := h
 simpa using h'
theorem calls_of {P : Program} {f : FuncId} {args : List Value} {w : World} (h : Rets P f args w fun v w' => v = .bool true ∧ Ext [] w w') :
  Calls P f args.toArray w fun e w' => e = .returned (.bool true) ∧ Below w.heap.size w w' :=
 Calls.mono h fun e w' ⟨v, he, hv, hw⟩ => ⟨by rw [he, hv], toBelow hw⟩
open Go.Eng Go.Vx Go.RowKit
theorem flat_one {α : Type} (f : α → PV) (l : List α) : (l.map fun x => [f x]).flatten = l.map f := by
 induction l with
 | nil => rfl
 | cons x l ih => simp [ih]
def IsB (B : List Int) : Prop := ∀ x ∈ B, 0 ≤ x ∧ x ≤ 255
theorem calls_fn {P : Program} {f : FuncId} {vs : List V} {args : List Value} {w : World} (h : Fn1 P f vs [] (.lit (.bool true)) []) (hr : RepL w (fun b => b < w.heap.size) [] vs args) (hlay : LayOk w (fun b => b < w.heap.size) := by intro e he; simp [layT] at he) :
  Calls P f args.toArray w fun e w' => e = .returned (.bool true) ∧ Below w.heap.size w w' := calls_of (rets_of_fn (u := .lit (.bool true)) h hr (fun u s h => h.1) hlay)
end Go.Proofs.YtdohmppildfjhaaGreatDoor

attribute [go_sem] decide_true decide_false beq_true beq_false Bool.true_beq Bool.false_beq Bool.not_not Bool.not_true Bool.not_false List.drop_zero List.map_cons List.map_nil List.length_cons List.length_nil List.cons_append List.nil_append List.set_cons_zero List.set_cons_succ List.getElem?_cons_zero List.getElem?_cons_succ List.length_map Int.toNat_natCast Nat.zero_add Nat.add_zero
namespace Go.Vx
open Go.Eng
set_option linter.unusedSimpArgs false
set_option linter.unusedVariables false
theorem lnA {α : Type} : (∀ a b : List α, (a ++ b).length = a.length + b.length) ∧ (∀ (l : List α) i x, (l.set i x).length = l.length) ∧ (∀ (x : α) l, (x :: l).length = l.length + 1) ∧ ([] : List α).length = 0 ∧ (∀ n (x : α), (List.replicate n x).length = n) ∧ (∀ n (l : List α), (l.take n).length = min n l.length) ∧ (∀ n (l : List α), (l.drop n).length = l.length - n) :=
 ⟨fun _ _ => List.length_append, fun _ _ _ => List.length_set, fun _ _ => rfl, rfl, fun _ _ => List.length_replicate, fun _ _ => List.length_take, fun _ _ => List.length_drop⟩
theorem runW {p q : Prop} (hq : q) (h : p = q := by simp (maxSteps := 1000000) (disch := (first | omega | (simp only [lnA, List.length_map, List.length_range, true_and, and_true]; (try omega); done) | fail)) only [go_sem, Int.reduceEq, Int.reduceToNat, Nat.reduceAdd, Nat.reduceMul, Nat.reduceEqDiff, ↓reduceIte]; rfl) : p := h.symm ▸ hq
theorem callW {P : Program} {e : Bool} {f : FuncId} {vs vs₀ : List V} {σ σ₀ s : St} {r : V} {K : KV} (π : Pi) (F : List Nat) (spec : Fn1 P f vs₀ σ₀ r s)
  (hk : K true (renV (rnm (vpi σ.length π) (σ.length + vcnt π)) r) (behd π F σ s))
  (h1 : (ndp π && π.all (fun p => match p with | some p => decide (p < σ.length) && !F.contains p | none => true)) = true := by rfl)
  (h2 : mSt F.contains π σ σ₀ π := by simp (disch := (first | omega | (simp only [List.length_append, List.length_set, List.length_cons, List.length_nil, List.length_replicate, List.length_take, List.length_drop, List.length_map, List.length_range, true_and, and_true]; (try omega); done) | fail)) only [go_sem, Int.reduceEq, Int.reduceToNat, Nat.reduceAdd, Nat.reduceMul, Nat.reduceEqDiff, ↓reduceIte, true_and, and_true, and_self, List.drop_zero, List.take_length, Nat.le_refl, V.lit.injEq, Value.int.injEq, Value.bool.injEq]; try (first | omega | (simp; done) | (simp; omega)))
  (h3 : mVs F.contains π σ vs₀ vs := by simp (disch := (first | omega | (simp only [List.length_append, List.length_set, List.length_cons, List.length_nil, List.length_replicate, List.length_take, List.length_drop, List.length_map, List.length_range, true_and, and_true]; (try omega); done) | fail)) only [go_sem, Int.reduceEq, Int.reduceToNat, Nat.reduceAdd, Nat.reduceMul, Nat.reduceEqDiff, ↓reduceIte, true_and, and_true, and_self, List.drop_zero, List.take_length, Nat.le_refl, V.lit.injEq, Value.int.injEq, Value.bool.injEq]; try (first | omega | (simp; done) | (simp; omega))) (he : e = true → σ₀ = [] := by simp) : callV P e f vs σ K := callV1 π F spec h1 h2 h3 he hk
theorem endW {k : Nat} {Q : V → St → Prop} {u : V} {s : St} (π : Pi) {u₀ : V} {s₀ : St} (hq : Q u₀ s₀) (h1 : (ndl π s₀ && kfix k π) = true := by rfl)
  (h2 : mSt (okN π) π s s₀ π := by simp (disch := (first | omega | (simp only [List.length_append, List.length_set, List.length_cons, List.length_nil, List.length_replicate, List.length_take, List.length_drop, List.length_map, List.length_range, true_and, and_true]; (try omega); done) | fail)) only [go_sem, Int.reduceEq, Int.reduceToNat, Nat.reduceAdd, Nat.reduceMul, Nat.reduceEqDiff, ↓reduceIte, true_and, and_true, and_self, List.drop_zero, List.take_length, Nat.le_refl, V.lit.injEq, Value.int.injEq, Value.bool.injEq]; try (first | omega | (simp; done) | (simp; omega)))
  (h3 : mV (okN π) π s u₀ u := by simp (disch := (first | omega | (simp only [List.length_append, List.length_set, List.length_cons, List.length_nil, List.length_replicate, List.length_take, List.length_drop, List.length_map, List.length_range, true_and, and_true]; (try omega); done) | fail)) only [go_sem, Int.reduceEq, Int.reduceToNat, Nat.reduceAdd, Nat.reduceMul, Nat.reduceEqDiff, ↓reduceIte, true_and, and_true, and_self, List.drop_zero, List.take_length, Nat.le_refl, V.lit.injEq, Value.int.injEq, Value.bool.injEq]; try (first | omega | (simp; done) | (simp; omega))) : EndV k Q u s := EndV_of π u₀ s₀ h1 h2 h3 hq
theorem loopW {X : Type} {k : Nat} {body : Vg → St → PostV → Prop} {ρ : Vg} {σ : St} {Q : PostV} (st : X → Vg × St) (inv : X → Prop) (m : X → Nat) (x₀ : X) (π : Pi) (hi : inv x₀) (round : ∀ x, inv x → body (st x).1 (st x).2 (thenV (fun _ => NextV k st inv m x) Q))
  (h1 : (ndl π (st x₀).2 && kfix k π) = true := by rfl) (h2 : mSt (okN π) π σ (st x₀).2 π := by simp (disch := (first | omega | (simp only [lnA, List.length_map, List.length_range, true_and, and_true]; (try omega); done) | fail)) only [go_sem, Int.reduceEq, Int.reduceToNat, Nat.reduceAdd, Nat.reduceMul, Nat.reduceEqDiff, ↓reduceIte, true_and, and_true, and_self, List.drop_zero, List.take_length, Nat.le_refl, V.lit.injEq, Value.int.injEq, Value.bool.injEq]; try (first | omega | (simp; done) | (simp; omega))) (h3 : mG (okN π) π σ (st x₀).1 ρ := by simp (disch := (first | omega | (simp only [lnA, List.length_map, List.length_range, true_and, and_true]; (try omega); done) | fail)) only [go_sem, Int.reduceEq, Int.reduceToNat, Nat.reduceAdd, Nat.reduceMul, Nat.reduceEqDiff, ↓reduceIte, true_and, and_true, and_self, List.drop_zero, List.take_length, Nat.le_refl, V.lit.injEq, Value.int.injEq, Value.bool.injEq]; try (first | omega | (simp; done) | (simp; omega))) : LoopV k body ρ σ Q := LoopV_of st inv m x₀ π h1 h2 h3 hi round
theorem nextW {X : Type} {k : Nat} {st : X → Vg × St} {inv : X → Prop} {m : X → Nat} {x : X} {ρ : Vg} {σ : St} (x' : X) (π : Pi) (hi : inv x') (hm : m x' < m x) (h1 : (ndl π (st x').2 && kfix k π) = true := by rfl)
  (h2 : mSt (okN π) π σ (st x').2 π := by simp (disch := (first | omega | (simp only [List.length_append, List.length_set, List.length_cons, List.length_nil, List.length_replicate, List.length_take, List.length_drop, List.length_map, List.length_range, true_and, and_true]; (try omega); done) | fail)) only [go_sem, Int.reduceEq, Int.reduceToNat, Nat.reduceAdd, Nat.reduceMul, Nat.reduceEqDiff, ↓reduceIte, true_and, and_true, and_self, List.drop_zero, List.take_length, Nat.le_refl, V.lit.injEq, Value.int.injEq, Value.bool.injEq]; try (first | omega | (simp; done) | (simp; omega)))
  (h3 : mG (okN π) π σ (st x').1 ρ := by simp (disch := (first | omega | (simp only [List.length_append, List.length_set, List.length_cons, List.length_nil, List.length_replicate, List.length_take, List.length_drop, List.length_map, List.length_range, true_and, and_true]; (try omega); done) | fail)) only [go_sem, Int.reduceEq, Int.reduceToNat, Nat.reduceAdd, Nat.reduceMul, Nat.reduceEqDiff, ↓reduceIte, true_and, and_true, and_self, List.drop_zero, List.take_length, Nat.le_refl, V.lit.injEq, Value.int.injEq, Value.bool.injEq]; try (first | omega | (simp; done) | (simp; omega))) : NextV k st inv m x ρ σ := NextV_of x' π h1 h2 h3 hi hm
def tbN (x j : Nat) : Bool := Nat.beq (Nat.land (Nat.shiftRight x j) 1) 1
def mk1 (s k : Nat) : Nat := Nat.lor s (Nat.shiftLeft 1 k)
def mkM : List Nat → Nat → Nat
 | [], s => s
 | k :: r, s => mkM r (mk1 s k)
theorem tbN_eq (x j : Nat) : tbN x j = x.testBit j := by
 rw [Nat.testBit_eq_decide_div_mod_eq]
 unfold tbN
 have h : Nat.land (Nat.shiftRight x j) 1 = x / 2 ^ j % 2 := by
  show (x >>> j) &&& 1 = _
  rw [Nat.and_one_is_mod, Nat.shiftRight_eq_div_pow]
 rw [h]
 by_cases e : x / 2 ^ j % 2 = 1
 ·
  rw [e]; simp
 ·
  rw [decide_eq_false e]
  exact Bool.eq_false_iff.2 fun hb => e (Nat.eq_of_beq_eq_true hb)
theorem tbN_mk1 (s k j : Nat) : tbN (mk1 s k) j = (tbN s j || k == j) := by
 rw [tbN_eq, tbN_eq]
 show Nat.testBit (s ||| 1 <<< k) j = _
 rw [Nat.testBit_or, Nat.one_shiftLeft, Nat.testBit_two_pow]
 rfl
theorem tbN_mkM : ∀ (l : List Nat) (s j : Nat), tbN (mkM l s) j = (tbN s j || l.contains j)
 | [], s, j => by simp [mkM]
 | k :: r, s, j => by
  rw [mkM, tbN_mkM r, tbN_mk1, List.contains_cons, Bool.or_assoc]
  congr 2
  exact BEq.comm
theorem tbN_zero (j : Nat) : tbN 0 j = false := by rw [tbN_eq]; simp
theorem tbN_mkM0 (l : List Nat) (j : Nat) : tbN (mkM l 0) j = l.contains j := by rw [tbN_mkM, tbN_zero, Bool.false_or]
theorem tbN_land (x y j : Nat) : tbN (Nat.land x y) j = (tbN x j && tbN y j) := by
 rw [tbN_eq, tbN_eq, tbN_eq]
 exact Nat.testBit_and x y j
theorem tbN_ext {x y : Nat} (h : ∀ j, tbN x j = tbN y j) : x = y := Nat.eq_of_testBit_eq fun j => by rw [← tbN_eq, ← tbN_eq]; exact h j
theorem land_sub (l : List Nat) (d : Nat) : Nat.beq (Nat.land (mkM l 0) d) (mkM l 0) = l.all (tbN d) := by
 rw [Bool.eq_iff_iff]
 constructor
 ·
  intro h
  have h := Nat.eq_of_beq_eq_true h
  refine List.all_eq_true.2 fun k hk => ?_
  have h1 := congrArg (tbN · k) h
  simp only [tbN_land, tbN_mkM0] at h1
  rw [show l.contains k = true by simpa using hk, Bool.true_and] at h1
  exact h1
 ·
  intro h
  have e : Nat.land (mkM l 0) d = mkM l 0 := tbN_ext fun j => by
   rw [tbN_land, tbN_mkM0]
   by_cases hj : l.contains j = true
   ·
    rw [hj, Bool.true_and]; exact List.all_eq_true.1 h j (by simpa using hj)
   ·
    rw [Bool.not_eq_true] at hj; rw [hj, Bool.false_and]
  rw [e]; exact Nat.beq_refl _
theorem land_nil (l : List Nat) (d : Nat) : Nat.beq (Nat.land (mkM l 0) d) 0 = !l.any (tbN d) := by
 rw [Bool.eq_iff_iff]
 constructor
 ·
  intro h
  have h := Nat.eq_of_beq_eq_true h
  rw [Bool.not_eq_true', List.any_eq_false]
  intro k hk
  have h1 := congrArg (tbN · k) h
  simp only [tbN_land, tbN_mkM0, tbN_zero] at h1
  rw [show l.contains k = true by simpa using hk, Bool.true_and] at h1
  rw [h1]; decide
 ·
  intro h
  rw [Bool.not_eq_true', List.any_eq_false] at h
  have e : Nat.land (mkM l 0) d = 0 := tbN_ext fun j => by
   rw [tbN_land, tbN_mkM0, tbN_zero]
   by_cases hj : l.contains j = true
   ·
    rw [hj, Bool.true_and]; exact Bool.eq_false_iff.2 (h j (by simpa using hj))
   ·
    rw [Bool.not_eq_true] at hj; rw [hj, Bool.false_and]
  rw [e]; exact Nat.beq_refl _
abbrev RowN := Nat × Option Tmp × Nat
def aftL (md : Region.Mode) (o : Oper) : List Nat := (o.after.toList.filter (Region.binds md)).map (·.on)
def rowN (md : Region.Mode) (ops : Array Oper) (o : Oper) : RowN := (mkM (aftL md o) 0, o.dst, mkM (o.looksAt ops) 0)
def tabN (md : Region.Mode) (ops : Array Oper) : List RowN := ops.toList.map (rowN md ops)
def apN (x y : RowN) : Bool :=
 (match x.2.1 with
  | some d => !tbN y.2.2 d && y.2.1 != some d
  | none => true) &&
 (match y.2.1 with
  | some d => !tbN x.2.2 d
  | none => true)
section
variable {md : Region.Mode} {ops : Array Oper}
theorem apN_eq (x y : Oper) : apN (rowN md ops x) (rowN md ops y) = x.apart ops y := by
 unfold apN rowN Oper.apart
 simp only [tbN_mkM0]
 cases x.dst <;> cases y.dst <;> rfl
theorem aft_any (o : Oper) (f : Nat → Bool) : (aftL md o).any f = o.after.any fun e => Region.binds md e && f e.on := by
 unfold aftL
 rw [← Array.any_toList, List.any_map, List.any_filter]
 rfl
theorem aft_all (o : Oper) (f : Nat → Bool) : (aftL md o).all f = o.after.all fun e => !Region.binds md e || f e.on := by
 unfold aftL
 rw [← Array.all_toList, List.all_map, List.all_filter]
 rfl
theorem aft_has (o : Oper) (i : Nat) : tbN (mkM (aftL md o) 0) i = o.after.any fun e => Region.binds md e && e.on == i := by
 rw [tbN_mkM0, ← aft_any o (· == i), Bool.eq_iff_iff]
 simp
theorem aft_has_row (o : Oper) (i : Nat) : tbN (rowN md ops o).1 i = o.after.any fun e => Region.binds md e && e.on == i := aft_has o i
structure InvN (n : Nat) (sl : Array Bool) (dn : Nat) : Prop where
 sz : sl.size = n
 f : ∀ j, sl.getD j false = tbN dn j
theorem InvN.t {n : Nat} {sl : Array Bool} {dn : Nat} (h : InvN n sl dn) (j : Nat) : sl.getD j true = (tbN dn j || Nat.ble n j) := by
 have h1 := h.f j
 have h2 := h.sz
 rw [← h1]
 by_cases hj : j < sl.size
 ·
  have e : Nat.ble n j = false := Bool.eq_false_iff.2 fun hb => by have := Nat.le_of_ble_eq_true hb; omega
  rw [e, Bool.or_false]
  simp [hj]
 ·
  have e : Nat.ble n j = true := Nat.ble_eq_true_of_le (by omega)
  rw [e, Bool.or_true]
  simp [hj]
def stN (n dn i : Nat) : Nat := bif Nat.ble n i then dn else mk1 dn i
theorem InvN.set {n : Nat} {sl : Array Bool} {dn : Nat} (h : InvN n sl dn) (i : Nat) : InvN n (sl.setIfInBounds i true) (stN n dn i) := by
 refine ⟨by rw [Array.size_setIfInBounds, h.sz], fun j => ?_⟩
 rw [set_getD, h.f j]
 unfold stN
 by_cases hi : n ≤ i
 ·
  rw [Nat.ble_eq_true_of_le hi, cond_true, if_neg (by have := h.sz; omega)]
 ·
  have e : Nat.ble n i = false := Bool.eq_false_iff.2 fun hb => hi (Nat.le_of_ble_eq_true hb)
  rw [e, cond_false, tbN_mk1]
  have := h.sz
  by_cases hj : i = j
  ·
   rw [if_pos ⟨hj, by omega⟩, hj]; simp
  ·
   rw [if_neg (fun e => hj e.1)]; simp [hj]
def lstN (n : Nat) : Nat → List Nat → Nat
 | dn, [] => dn
 | dn, i :: r => lstN n (stN n dn i) r
theorem InvN.lst {n : Nat} : ∀ {l : List Nat} {sl : Array Bool} {dn : Nat}, InvN n sl dn → InvN n (lstB sl l) (lstN n dn l)
 | [], _, _, h => h
 | i :: r, _, _, h => InvN.lst (l := r) (h.set i)
def rdyN (dn : Nat) : List RowN → Nat → List Nat
 | [], _ => []
 | a :: r, j => bif !tbN dn j && Nat.beq (Nat.land a.1 dn) a.1 then j :: rdyN dn r (j + 1) else rdyN dn r (j + 1)
theorem rdyN_aux {sl : Array Bool} {dn : Nat} (h : InvN ops.size sl dn) : ∀ (l pre : List Oper), ops.toList = pre ++ l →
  rdyN dn (l.map (rowN md ops)) pre.length = (List.range' pre.length l.length).filter fun i =>
   !sl.getD i true && ((ops[i]?).map (·.after.all fun e => !Region.binds md e || sl.getD e.on false)).getD false
 | [], pre, _ => by simp [rdyN]
 | o :: l, pre, hp => by
  have ih := rdyN_aux h l (pre ++ [o]) (by rw [hp]; simp)
  have ho : ops[pre.length]? = some o := by rw [← Array.getElem?_toList, hp]; simp
  have hlt : pre.length < ops.size := by rw [← Array.length_toList, hp]; simp
  rw [List.length_append, List.length_cons, List.length_nil] at ih
  rw [List.map_cons, rdyN, ih, List.length_cons, List.range'_succ, List.filter_cons, ho]
  have e1 : sl.getD pre.length true = tbN dn pre.length := by
   rw [h.t, Bool.eq_false_iff.2 (fun hb => absurd (Nat.le_of_ble_eq_true hb) (by omega)), Bool.or_false]
  have e2 : Nat.beq (Nat.land (rowN md ops o).1 dn) (rowN md ops o).1 = o.after.all fun e => !Region.binds md e || sl.getD e.on false := by
   show Nat.beq (Nat.land (mkM (aftL md o) 0) dn) (mkM (aftL md o) 0) = _
   rw [land_sub, aft_all]
   congr 1
   funext e
   rw [h.f]
  rw [e1, e2, Option.map_some, Option.getD_some]
  cases (!tbN dn pre.length && o.after.all fun e => !Region.binds md e || sl.getD e.on false) <;> rfl
theorem rdyN_eq {sl : Array Bool} {dn : Nat} (h : InvN ops.size sl dn) : Region.ready md ops sl = rdyN dn (tabN md ops) 0 := by
 have := rdyN_aux (md := md) h ops.toList [] rfl
 rw [List.length_nil, Array.length_toList] at this
 unfold Region.ready tabN
 rw [List.range_eq_range']
 exact this.symm
def allN (f : RowN → Nat → Bool) : List RowN → Nat → Bool
 | [], _ => true
 | y :: r, j => f y j && allN f r (j + 1)
theorem allN_aux {f : RowN → Nat → Bool} : ∀ (l pre : List Oper), ops.toList = pre ++ l → allN f (l.map (rowN md ops)) pre.length = true →
  ∀ (j : Nat) o, pre.length ≤ j → ops[j]? = some o → f (rowN md ops o) j = true
 | [], pre, hp, _, j, o, hj, ho => by
  have : j < ops.size := (Array.getElem?_eq_some_iff.1 ho).1
  rw [← Array.length_toList, hp] at this
  simp at this
  omega
 | x :: l, pre, hp, h, j, o, hj, ho => by
  rw [List.map_cons, allN, Bool.and_eq_true] at h
  rcases Nat.eq_or_lt_of_le hj with rfl | hlt
  ·
   have hx : ops[pre.length]? = some x := by rw [← Array.getElem?_toList, hp]; simp
   rw [hx] at ho
   cases ho
   exact h.1
  ·
   exact allN_aux l (pre ++ [x]) (by rw [hp]; simp) (by simpa using h.2) j o (by simp; omega) ho
theorem allN_spec {f : RowN → Nat → Bool} (h : allN f (tabN md ops) 0 = true) (j : Nat) (o : Oper) (ho : ops[j]? = some o) : f (rowN md ops o) j = true :=
 allN_aux ops.toList [] rfl h j o (Nat.zero_le _) ho
theorem range_all {n : Nat} {f : Nat → Bool} (h : ∀ j, j < n → f j = true) : (List.range n).all f = true :=
 List.all_eq_true.2 fun j hj => h j (List.mem_range.1 hj)
def depN (i : Nat) : List RowN → Nat → Nat → Nat
 | [], _, D => D
 | y :: r, j, D => depN i r (j + 1) (bif Nat.beq (Nat.land y.1 (mk1 D i)) 0 then D else mk1 D j)
def freN (T : List RowN) (wrm dn i : Nat) : Bool := match T[i]? with
 | none => false
 | some x => allN (fun y j => Nat.beq j i || tbN dn j || tbN y.1 i || (apN x y && !tbN wrm j)) T 0 ||
  (Nat.beq (Nat.land (depN i T 0 0) dn) 0 && allN (fun y j => Nat.beq j i || tbN dn j || tbN (depN i T 0 0) j || (apN x y && !tbN wrm j)) T 0)
theorem tab_get {i : Nat} : (tabN md ops)[i]? = (ops[i]?).map (rowN md ops) := by
 unfold tabN
 rw [List.getElem?_map, Array.getElem?_toList]
theorem push_getD (A : Array Bool) (b : Bool) (k : Nat) : (A.push b).getD k false = if k = A.size then b else A.getD k false := by
 simp only [Array.getD_eq_getD_getElem?, Array.getElem?_push]
 split <;> simp
theorem depN_aux {i : Nat} : ∀ (l pre : List Oper) (A : Array Bool) (D : Nat), ops.toList = pre ++ l → A.size = pre.length → (∀ k, A.getD k false = tbN D k) →
  (∀ (j : Nat) o, ops[j]? = some o → A.getD j false = true → (o.after.any fun e => Region.binds md e && (e.on == i || A.getD e.on false)) = true) →
  ∃ A' : Array Bool, ((List.range' pre.length l.length).foldl (fun D j => D.push (match ops[j]? with | some oj => oj.after.any (fun e => Region.binds md e && (e.on == i || D.getD e.on false)) | none => false)) A) = A' ∧
   A'.size = ops.size ∧ (∀ k, A'.getD k false = tbN (depN i (l.map (rowN md ops)) pre.length D) k) ∧
   (∀ (j : Nat) o, ops[j]? = some o → A'.getD j false = true → (o.after.any fun e => Region.binds md e && (e.on == i || A'.getD e.on false)) = true)
 | [], pre, A, D, hp, hs, hA, hC => ⟨A, rfl, by rw [hs, ← Array.length_toList, hp]; simp, hA, hC⟩
 | o :: l, pre, A, D, hp, hs, hA, hC => by
  have ho : ops[pre.length]? = some o := by rw [← Array.getElem?_toList, hp]; simp
  obtain ⟨b, hb⟩ : ∃ b, (o.after.any fun e => Region.binds md e && (e.on == i || A.getD e.on false)) = b := ⟨_, rfl⟩
  have hm : Nat.beq (Nat.land (rowN md ops o).1 (mk1 D i)) 0 = !b := by
   show Nat.beq (Nat.land (mkM (aftL md o) 0) (mk1 D i)) 0 = _
   rw [land_nil, aft_any, ← hb]
   congr 2
   funext e
   rw [tbN_mk1, hA, Bool.or_comm]
   congr 2
   exact BEq.comm
  have hsz : pre.length < ops.size := by rw [← Array.length_toList, hp]; simp
  have hmono : ∀ k, A.getD k false = true → (A.push b).getD k false = true := fun k hk => by
   rw [push_getD]
   split
   ·
    rename_i e
    rw [e] at hk
    simp at hk
   ·
    exact hk
  obtain ⟨A', h1, h2, h3, h4⟩ := depN_aux l (pre ++ [o]) (A.push b) (bif !b then D else mk1 D pre.length) (by rw [hp]; simp) (by simp [hs])
   (fun k => by
    rw [push_getD, hs, hA]
    cases b
    ·
     simp only [Bool.not_false, cond_true]
     split
     ·
      rename_i e
      have := hA k
      rw [← this]
      simp [e, hs]
     ·
      rfl
    ·
     simp only [Bool.not_true, cond_false]
     rw [tbN_mk1]
     split
     ·
      rename_i e; rw [e]; simp
     ·
      rename_i e; rw [show (pre.length == k) = false by simpa using fun h => e h.symm]; simp)
   (fun j oj hj hbj => by
    rw [push_getD] at hbj
    have step : ∀ oo : Oper, (oo.after.any fun e => Region.binds md e && (e.on == i || A.getD e.on false)) = true → (oo.after.any fun e => Region.binds md e && (e.on == i || (A.push b).getD e.on false)) = true := fun oo hh => by
     rw [Array.any_eq_true'] at hh ⊢
     obtain ⟨e, he, h⟩ := hh
     refine ⟨e, he, ?_⟩
     rw [Bool.and_eq_true, Bool.or_eq_true] at h ⊢
     exact ⟨h.1, h.2.imp id (hmono _)⟩
    split at hbj
    ·
     rename_i e
     rw [hs] at e
     rw [e, ho] at hj
     cases hj
     exact step _ (by rw [hb]; exact hbj)
    ·
     exact step _ (hC j oj hj hbj))
  refine ⟨A', ?_, h2, ?_, h4⟩
  ·
   rw [List.length_cons, List.range'_succ, List.foldl_cons, ho]
   simp only [List.length_append, List.length_cons, List.length_nil] at h1
   show (List.range' (pre.length + 1) l.length).foldl _ (A.push (o.after.any fun e => Region.binds md e && (e.on == i || A.getD e.on false))) = A'
   rw [hb]
   exact h1
  ·
   intro k
   rw [h3, List.map_cons, depN, hm]
   simp only [List.length_append, List.length_cons, List.length_nil]
theorem freN_ok {sl : Array Bool} {dn wrm i : Nat} {wr : Nat → Bool} (h : InvN ops.size sl dn) (hw : ∀ j, wr j = tbN wrm j) (hf : freN (tabN md ops) wrm dn i = true) : freeE md ops wr sl i = true := by
 unfold freN at hf
 rw [tab_get] at hf
 unfold freeE
 cases hi : ops[i]? with
 | none => rw [hi] at hf; exact absurd hf (by simp)
 | some oi =>
  rw [hi, Option.map_some] at hf
  simp only at hf ⊢
  rw [Bool.or_eq_true] at hf ⊢
  rcases hf with hf | hf
  ·
   refine .inl (range_all fun j hj => ?_)
   have hoj : ops[j]? = some ops[j] := Array.getElem?_eq_getElem hj
   have := allN_spec hf j _ hoj
   rw [hoj]
   simp only at this ⊢
   rw [aft_has_row, apN_eq] at this
   rw [h.t, hw j]
   simp only [Bool.or_eq_true, Bool.and_eq_true] at this ⊢
   rcases this with ((h1 | h1) | h1) | h1
   ·
    exact .inl (.inl (by simpa using Nat.eq_of_beq_eq_true h1))
   ·
    exact .inl (.inr (.inl h1))
   ·
    exact .inr (.inl h1)
   ·
    exact .inr (.inr h1)
  ·
   right
   rw [Bool.and_eq_true] at hf
   obtain ⟨A', h1, h2, h3, h4⟩ := depN_aux (md := md) (i := i) ops.toList [] #[] 0 rfl rfl (fun k => by rw [tbN_zero]; simp) (fun j o _ hb => by simp at hb)
   have hD : depsOf md ops i = A' := by
    unfold depsOf
    rw [List.range_eq_range']
    rw [List.length_nil, Array.length_toList] at h1
    exact h1
   rw [List.length_nil] at h3
   have h3' : ∀ k, A'.getD k false = tbN (depN i (tabN md ops) 0 0) k := h3
   rw [hD, Bool.and_eq_true]
   refine ⟨?_, ?_⟩
   ·
    unfold depsB
    rw [Bool.and_eq_true]
    refine ⟨by simp [h2], range_all fun j hj => ?_⟩
    have hoj : ops[j]? = some ops[j] := Array.getElem?_eq_getElem hj
    rw [hoj]
    cases hAj : A'.getD j false with
    | false => rfl
    | true =>
     have hz := Nat.eq_of_beq_eq_true hf.1
     have hb := congrArg (tbN · j) hz
     simp only [tbN_land, tbN_zero] at hb
     rw [← h3', hAj, Bool.true_and] at hb
     simp only [Bool.not_true, Bool.false_or, Bool.and_eq_true]
     exact ⟨by rw [h.f, hb]; rfl, h4 j _ hoj hAj⟩
   ·
    unfold freeD
    rw [hi]
    refine range_all fun j hj => ?_
    have hoj : ops[j]? = some ops[j] := Array.getElem?_eq_getElem hj
    have := allN_spec hf.2 j _ hoj
    rw [hoj]
    simp only at this ⊢
    rw [apN_eq] at this
    rw [h.t, hw j, h3']
    simp only [Bool.or_eq_true, Bool.and_eq_true] at this ⊢
    rcases this with ((h1 | h1) | h1) | h1
    ·
     exact .inl (.inl (by simpa using Nat.eq_of_beq_eq_true h1))
    ·
     exact .inl (.inr (.inl h1))
    ·
     exact .inr (.inl h1)
    ·
     exact .inr (.inr h1)
def kindP (ops : Array Oper) (i : Nat) : Bool := match ops[i]? with
 | none => false
 | some oi => oi.guard.isNone && (match oi.op with | .move _ | .assign _ | .pick .. | .binOp .. | .unOp .. | .convert .. | .slice .. | .fieldAddr .. | .field .. | .indexAddr .. | .index .. | .extract .. | .nilCheck .. | .build .. | .call { callee := .builtin .min, .. } | .call { callee := .builtin .max, .. } => true | _ => false)
def freP (T : List RowN) (dn i : Nat) : Bool := match T[i]? with
 | none => false
 | some x => allN (fun y j => Nat.beq j i || tbN dn j || tbN y.1 i || apN x y) T 0
theorem freP_ok {sl : Array Bool} {dn i : Nat} (h : InvN ops.size sl dn) (hk : kindP ops i = true) (hf : freP (tabN md ops) dn i = true) : freeP md ops sl i = true := by
 unfold freP at hf
 rw [tab_get] at hf
 unfold kindP at hk
 unfold freeP
 cases hi : ops[i]? with
 | none => rw [hi] at hf; exact absurd hf (by simp)
 | some oi =>
  rw [hi] at hk
  rw [hi, Option.map_some] at hf
  simp only at hf hk ⊢
  rw [Bool.and_eq_true]
  refine ⟨?_, range_all fun j hj => ?_⟩
  ·
   rw [Bool.and_eq_true] at hk ⊢
   refine ⟨hk.1, ?_⟩
   have h2 := hk.2
   revert h2
   cases oi.op <;> exact id
  ·
   have hoj : ops[j]? = some ops[j] := Array.getElem?_eq_getElem hj
   have := allN_spec hf j _ hoj
   rw [hoj]
   simp only at this ⊢
   rw [aft_has_row, apN_eq] at this
   rw [h.t]
   simp only [Bool.or_eq_true, Bool.and_eq_true] at this ⊢
   rcases this with ((h1 | h1) | h1) | h1
   ·
    exact .inl (.inl (by simpa using Nat.eq_of_beq_eq_true h1))
   ·
    exact .inl (.inr (.inl h1))
   ·
    exact .inr (.inl h1)
   ·
    exact .inr (.inr h1)
def apT (T : List RowN) (i l : Nat) : Bool := match T[i]?, T[l]? with
 | some x, some y => apN x y
 | _, _ => false
theorem apT_eq (i l : Nat) : apT (tabN md ops) i l = apB ops i l := by
 unfold apT apB
 rw [tab_get, tab_get]
 cases ops[i]? <;> cases ops[l]? <;> simp [apN_eq]
def enuN (ops : Array Oper) (T : List RowN) (n wrm : Nat) (S : List (Nat × Nat × Nat)) (goal : Nat) : Nat → Nat → Nat → Bool
 | 0, dn, _ => Nat.beq dn goal
 | m + 1, dn, rm => !(rdyN dn T 0).isEmpty && (rdyN dn T 0).all fun j => ngG ops j && (S.any fun x => x.1 == j && enuB rm j x.2.2 && (x.2.1 == 11 || (x.2.1 == 12 && tbN wrm j))) && enuN ops T n wrm S goal m (stN n dn j) (rm - 2 ^ j)
theorem InvN.same {n : Nat} {x y : Array Bool} {dn : Nat} (h : InvN n x dn) (j : InvN n y dn) : x = y := by
 refine Array.ext (by rw [h.sz, j.sz]) fun i h1 h2 => ?_
 have e1 := h.f i
 have e2 := j.f i
 rw [← e2] at e1
 simpa [h1, h2] using e1
theorem enuN_ok {wrm : Nat} {wr : Nat → Bool} (hw : ∀ j, wr j = tbN wrm j) {S : List (Nat × Nat × Nat)} {goal : Array Bool} {gm : Nat} (hg : InvN ops.size goal gm) : ∀ (m : Nat) (sl : Array Bool) (dn rm : Nat), InvN ops.size sl dn →
  enuN ops (tabN .any ops) ops.size wrm S gm m dn rm = true → enuC .any ops wr S goal m sl rm = true
 | 0, sl, dn, rm, h, hs => by
  unfold enuN at hs
  unfold enuC
  have e := Nat.eq_of_beq_eq_true hs
  subst e
  exact beq_iff_eq.2 (h.same hg)
 | m + 1, sl, dn, rm, h, hs => by
  unfold enuN at hs
  unfold enuC
  rw [rdyN_eq h]
  rw [Bool.and_eq_true] at hs ⊢
  refine ⟨hs.1, List.all_eq_true.2 fun j hj => ?_⟩
  have h2 := List.all_eq_true.1 hs.2 j hj
  rw [Bool.and_eq_true] at h2 ⊢
  rw [hw]
  exact ⟨h2.1, enuN_ok hw hg m _ _ _ (h.set j) h2.2⟩
def schedN (ops : Array Oper) (T : List RowN) (n wrm : Nat) : Nat → List (Nat × Option Nat) → List (Nat × Nat × Nat) → Bool
 | dn, L, [] => L.isEmpty && (rdyN dn T 0).isEmpty
 | dn, L, (i, t, p) :: r => match t with
  | 0 => (rdyN dn T 0).contains i && !(idsL L).contains i && freN T wrm dn i && (idsL L).all (apT T i) && schedN ops T n wrm (stN n dn i) L r
  | 1 => (rdyN dn T 0).contains i && (rdyN (lstN n dn (idsL L)) T 0 == [i]) && (idsL L).all (apT T i) && schedN ops T n wrm (stN n dn i) L r
  | 2 => (rdyN dn T 0).contains i && (rdyN (lstN n dn (idsL L)) T 0 == [i]) && (idsL L).all (apT T i) && tbN wrm i && schedN ops T n wrm (stN n dn i) L r
  | 3 => L.contains (i, none) && (rdyN (lstN n dn (idsL (L.filter fun x => x.1 != i))) T 0).all (fun j => (idsL L).contains j) && schedN ops T n wrm (stN n dn i) (L.filter fun x => x.1 != i) r
  | 4 => (rdyN dn T 0).contains i && !(idsL L).contains i && mkG ops i && (idsL L).all (apT T i) && schedN ops T n wrm dn ((i, none) :: L) r
  | 5 => (rdyN dn T 0).contains i && !(idsL L).contains i && kindP ops i && freP T dn i && (idsL L).all (apT T i) && schedN ops T n wrm (stN n dn i) L r
  | 6 => L.contains (p, none) && !(idsL L).contains i && !(tbN dn i || Nat.ble n i) && prG .any ops i p && tbN wrm i && (rdyN (lstN n dn (L.map (·.1))) T 0).contains i && (idsL (L.filter fun x => x.1 != p)).all (apT T i) && schedN ops T n wrm dn ((p, some i) :: L.filter fun x => x.1 != p) r
  | 7 => L.contains (p, some i) && (rdyN (lstN n dn (idsL (L.filter fun x => x.1 != p))) T 0).all (fun j => (idsL L).contains j) && (rdyN (lstN n dn (p :: idsL (L.filter fun x => x.1 != p))) T 0).all (fun j => (idsL L).contains j) && schedN ops T n wrm (stN n (stN n dn p) i) (L.filter fun x => x.1 != p) r
  | 8 => L.isEmpty && (rdyN dn T 0).contains i && (rdyN dn T 0).contains p && (rdyN dn T 0).all (fun j => j == i || j == p) && (rdyN (stN n dn i) T 0 == [p]) && (rdyN (stN n dn p) T 0 == [i]) && lsG ops i p && tbN wrm p && apT T i p && schedN ops T n wrm (stN n (stN n dn i) p) [] r
  | 9 => L.isEmpty && (rdyN dn T 0).contains i && (rdyN dn T 0).contains p && (rdyN dn T 0).all (fun j => j == i || j == p) && (rdyN (stN n dn i) T 0).all (fun j => j == p || j == i + 1) && (rdyN (stN n dn p) T 0 == [i]) && (rdyN (stN n (stN n dn i) p) T 0 == [i + 1]) && (rdyN (stN n (stN n dn i) (i + 1)) T 0 == [p]) && lsG ops i p && ngG ops (i + 1) && tbN wrm p && apT T i p && apT T (i + 1) p && schedN ops T n wrm (stN n (stN n (stN n dn i) p) (i + 1)) [] r
  | 10 => L.isEmpty && enuN ops T n wrm (r.take i) (lstN n dn ((r.take i).map (·.1))) i dn p && schedN ops T n wrm (lstN n dn ((r.take i).map (·.1))) [] r
  | 11 => schedN ops T n wrm dn L r
  | 12 => schedN ops T n wrm dn L r
  | _ => false
theorem schedN_ok {wrm : Nat} {wr : Nat → Bool} (hw : ∀ j, wr j = tbN wrm j) : ∀ (S : List (Nat × Nat × Nat)) (L : List (Nat × Option Nat)) (sl : Array Bool) (dn : Nat), InvN ops.size sl dn →
  schedN ops (tabN .any ops) ops.size wrm dn L S = true → schedC .any ops wr sl L S = true
 | [], L, sl, dn, h, hs => by
  unfold schedC
  rw [rdyN_eq h]
  exact hs
 | (i, t, p) :: r, L, sl, dn, h, hs => by
  have ih := schedN_ok hw r
  unfold schedN at hs
  unfold schedC
  have ap : (idsL L).all (apT (tabN .any ops) i) = (idsL L).all (apB ops i) := by congr 1; funext l; exact apT_eq i l
  match t, hs with
  | 0, hs =>
   simp only [Bool.and_eq_true] at hs ⊢
   rw [rdyN_eq h, ← ap]
   exact ⟨⟨⟨hs.1.1.1, freN_ok h hw hs.1.1.2⟩, hs.1.2⟩, ih _ _ _ (h.set i) hs.2⟩
  | 1, hs =>
   simp only [Bool.and_eq_true] at hs ⊢
   rw [rdyN_eq h, ← ap, rdyN_eq h.lst]
   exact ⟨hs.1, ih _ _ _ (h.set i) hs.2⟩
  | 2, hs =>
   simp only [Bool.and_eq_true] at hs ⊢
   rw [rdyN_eq h, ← ap, rdyN_eq h.lst, hw]
   exact ⟨hs.1, ih _ _ _ (h.set i) hs.2⟩
  | 3, hs =>
   simp only [Bool.and_eq_true] at hs ⊢
   rw [rdyN_eq h.lst]
   exact ⟨hs.1, ih _ _ _ (h.set i) hs.2⟩
  | 4, hs =>
   simp only [Bool.and_eq_true] at hs ⊢
   rw [rdyN_eq h, ← ap]
   exact ⟨hs.1, ih _ _ _ h hs.2⟩
  | 5, hs =>
   simp only [Bool.and_eq_true] at hs ⊢
   rw [rdyN_eq h, ← ap]
   exact ⟨⟨⟨hs.1.1.1.1, freP_ok h hs.1.1.1.2 hs.1.1.2⟩, hs.1.2⟩, ih _ _ _ (h.set i) hs.2⟩
  | 6, hs =>
   have ap2 : (idsL (L.filter fun x => x.1 != p)).all (apT (tabN .any ops) i) = (idsL (L.filter fun x => x.1 != p)).all (apB ops i) := by congr 1; funext l; exact apT_eq i l
   simp only [Bool.and_eq_true] at hs ⊢
   rw [rdyN_eq h.lst, ← ap2, hw, h.t]
   exact ⟨hs.1, ih _ _ _ h hs.2⟩
  | 7, hs =>
   simp only [Bool.and_eq_true] at hs ⊢
   rw [rdyN_eq h.lst, rdyN_eq h.lst]
   exact ⟨hs.1, ih _ _ _ ((h.set p).set i) hs.2⟩
  | 8, hs =>
   simp only [Bool.and_eq_true] at hs ⊢
   rw [rdyN_eq h, rdyN_eq (h.set i), rdyN_eq (h.set p), hw, ← apT_eq (md := .any)]
   exact ⟨hs.1, ih _ _ _ ((h.set i).set p) hs.2⟩
  | 9, hs =>
   simp only [Bool.and_eq_true] at hs ⊢
   rw [rdyN_eq h, rdyN_eq (h.set i), rdyN_eq (h.set p), rdyN_eq ((h.set i).set p), rdyN_eq ((h.set i).set (i + 1)), hw, ← apT_eq (md := .any), ← apT_eq (md := .any)]
   exact ⟨hs.1, ih _ _ _ (((h.set i).set p).set (i + 1)) hs.2⟩
  | 10, hs =>
   simp only [Bool.and_eq_true] at hs ⊢
   exact ⟨⟨hs.1.1, enuN_ok hw h.lst _ _ _ _ h hs.1.2⟩, ih _ _ _ h.lst hs.2⟩
  | 11, hs => exact ih _ _ _ h hs
  | 12, hs => exact ih _ _ _ h hs
  | t + 13, hs => exact absurd hs (by simp)
end
def wrL (S : List (Nat × Nat × Nat)) : List Nat := S.flatMap fun p => (bif p.2.1 == 2 || p.2.1 == 7 || p.2.1 == 12 then [p.1] else []) ++ (bif (p.2.1 == 8 || p.2.1 == 9) then [p.2.2] else [])
theorem wrL_eq (S : List (Nat × Nat × Nat)) (j : Nat) : (S.any fun p => (p.1 == j && (p.2.1 == 2 || p.2.1 == 7 || p.2.1 == 12)) || ((p.2.1 == 8 || p.2.1 == 9) && p.2.2 == j)) = tbN (mkM (wrL S) 0) j := by
 rw [tbN_mkM0]
 induction S with
 | nil => rfl
 | cons p S ih =>
  have e : wrL (p :: S) = ((bif p.2.1 == 2 || p.2.1 == 7 || p.2.1 == 12 then [p.1] else []) ++ (bif (p.2.1 == 8 || p.2.1 == 9) then [p.2.2] else [])) ++ wrL S := by simp [wrL]
  rw [List.any_cons, ih, e, List.contains_append, List.contains_append]
  congr 1
  congr 1
  ·
   cases (p.2.1 == 2 || p.2.1 == 7 || p.2.1 == 12)
   ·
    simp
   ·
    simp only [Bool.and_true, cond_true, List.contains_cons, List.contains_nil, Bool.or_false]; exact BEq.comm
  ·
   cases (p.2.1 == 8 || p.2.1 == 9)
   ·
    simp
   ·
    simp only [Bool.true_and, cond_true, List.contains_cons, List.contains_nil, Bool.or_false]; exact BEq.comm
def chkN (n : Nat) (pl : Plans) : Code → Bool
 | .region id ops draw => (ops.toList.all fun o => o.dst.all (· < n)) && (!draw || (Region.noSelect ops && schedN ops (tabN .any ops) ops.size (mkM (wrL (pl id)) 0) 0 [] (pl id)))
 | .seq a b => chkN n pl a && chkN n pl b
 | .cond _ a b => chkN n pl a && chkN n pl b
 | .block _ c => chkN n pl c
 | .loop c => chkN n pl c
 | .scope c => chkN n pl c
 | _ => true
theorem chkN_chk {n : Nat} {pl : Plans} : ∀ {c : Code}, chkN n pl c = true → chk n pl c = true
 | .region id ops draw, h => by
  unfold chkN at h
  unfold chk
  rw [Bool.and_eq_true] at h ⊢
  refine ⟨h.1, ?_⟩
  have h2 := h.2
  rw [Bool.or_eq_true] at h2 ⊢
  refine h2.imp (fun h4 => h4) fun h3 => ?_
  rw [Bool.and_eq_true] at h3 ⊢
  refine ⟨h3.1, schedN_ok (fun j => wrL_eq (pl id) j) _ _ _ 0 ⟨by simp, fun j => ?_⟩ h3.2⟩
  rw [tbN_zero]
  simp only [Array.getD_eq_getD_getElem?, Array.getElem?_replicate]
  split <;> rfl
 | .seq a b, h => by
  unfold chkN at h
  unfold chk
  rw [Bool.and_eq_true] at h ⊢
  exact ⟨chkN_chk h.1, chkN_chk h.2⟩
 | .cond _ a b, h => by
  unfold chkN at h
  unfold chk
  rw [Bool.and_eq_true] at h ⊢
  exact ⟨chkN_chk h.1, chkN_chk h.2⟩
 | .block _ c, h => chkN_chk (c := c) h
 | .loop c, h => chkN_chk (c := c) h
 | .scope c, h => chkN_chk (c := c) h
 | .skip, _ => rfl
 | .exit _, _ => rfl
 | .ret, _ => rfl
 | .label _, _ => rfl
 | .rangeFunc .., _ => rfl
 | .goto _, _ => rfl
 | .refuse _, _ => rfl
theorem fn1N_of {P : Program} {f : FuncId} {fn : Func} {c : Code} {vs : List V} {σ : St} {r : V} {s : St} (pl : Plans) (hm : P.follows .mixedOrders = true) (hcf : ∀ (args : Array Value) (w : World), (callFunc f args).run P w = .ok (.enter f args) w)
  (hf : P.funcs[f]? = some fn) (hb : fn.body = some c) (hc : chkN fn.ntmps pl c = true) (hs : Nat.ble vs.length fn.ntmps = true) (rs : List ResultVar) (hr : fn.results.toList = rs)
  (h : ∀ Q : V → St → Prop, Q r s → denV true P σ.length pl c (rgV 0 vs) σ (retPV P rs (EndV σ.length Q))) : Fn1 P f vs σ r s :=
 fn1_of pl hm hcf hf hb (chkN_chk hc) hs rs hr h
end Go.Vx

namespace Go.Vx
open Go.Eng
set_option linter.unusedSimpArgs false
set_option linter.unusedVariables false
section
variable {w w' : World} {Im : Nat → Prop} {μ : Mu} {σ : St}
theorem frz_all (r : Rel μ Im σ w) : Frz μ Im σ (fun _ => true) (fun b => b < w.heap.size) :=
 ⟨fun b hb => (r.im b hb).1, fun o b n ob _ h2 h3 => r.lt (mem_live.2 ⟨o, n, ob, h3, h2⟩)⟩
theorem tVs_sound (r : Rel μ Im σ w) {us₀ us : List V} {vs : List Value} (h : mVs (fun _ => true) [] σ us₀ us) (hr : RepL w Im μ us vs) : RepL w (fun b => b < w.heap.size) [] us₀ vs := mVs_sound (π := []) r (frz_all r) h hr
end
def pln0 : V → Bool
 | .lit _ => true
 | .agg l => plnL l
 | .tup l => plnL l
 | _ => false
where plnL : List V → Bool
 | [] => true
 | v :: vs => pln0 v && plnL vs
mutual
theorem pln0_rep {w : World} {Im Im' : Nat → Prop} {μ μ' : Mu} : ∀ {u : V} {v : Value}, pln0 u = true → RepV w Im μ u v → RepV w Im' μ' u v
 | .lit x, v, _, h => by cases h with | lit h => exact .lit h
 | .agg l, v, hp, h => by
  cases h with
  | agg hn ho hr =>
   have := plnL_rep (Im' := Im') (μ' := μ') hp ⟨hn, hr⟩
   exact .agg this.1 ho this.2
 | .tup l, v, hp, h => by
  cases h with
  | tup hn hr =>
   have := plnL_rep (Im' := Im') (μ' := μ') hp ⟨hn, hr⟩
   exact .tup this.1 this.2
 | .row _ _, _, hp, _ => by simp [pln0] at hp
 | .xrow _ _, _, hp, _ => by simp [pln0] at hp
 | .rref _ _ _ _, _, hp, _ => by simp [pln0] at hp
 | .ref _ _ _ _, _, hp, _ => by simp [pln0] at hp
 | .sl _ _ _ _, _, hp, _ => by simp [pln0] at hp
 | .clo _ _, _, hp, _ => by simp [pln0] at hp
 | .mref _, _, hp, _ => by simp [pln0] at hp
theorem plnL_rep {w : World} {Im Im' : Nat → Prop} {μ μ' : Mu} : ∀ {us : List V} {vs : List Value}, pln0.plnL us = true → RepL w Im μ us vs → RepL w Im' μ' us vs
 | [], vs, _, hr => ⟨hr.1, by simp⟩
 | u :: us, vs, h, hr => by
  simp only [pln0.plnL, Bool.and_eq_true] at h
  obtain ⟨v, vs, rfl, h1, h2⟩ := hr.uncons
  exact .cons (pln0_rep h.1 h1) (plnL_rep h.2 h2)
end
theorem mRow_all {β : Type} {L : List β} {f : β → List PV} {z len : Nat} (h : L.length = len) : mRow (.row z (L.map f)) z 0 len (L.map f) = True := by
 subst h
 simp [mRow, ← List.map_take]
theorem mRow_all' {z len : Nat} {l : List (List PV)} (h : l.length = len) : mRow (.row z l) z 0 len l = True := by
 subst h
 simp [mRow]
attribute [go_sem ↓ high] mRow_all mRow_all'
theorem callT {P : Program} {e : Bool} {f : FuncId} {vs vs₀ : List V} {σ : St} {r : V} {K : KV} (spec : Fn1 P f vs₀ [] r []) (hk : K true r σ)
  (hr : pln0 r = true := by rfl)
  (hm : mVs (fun _ => true) [] σ vs₀ vs := by simp (disch := (first | omega | (simp only [List.length_append, List.length_set, List.length_cons, List.length_nil, List.length_replicate, List.length_take, List.length_drop, List.length_map, List.length_range, true_and, and_true]; (try omega); done) | fail)) only [go_sem, Int.reduceEq, Int.reduceToNat, Nat.reduceAdd, Nat.reduceMul, Nat.reduceEqDiff, ↓reduceIte, true_and, and_true, and_self, List.drop_zero, List.take_length, Nat.le_refl, V.lit.injEq, Value.int.injEq, Value.bool.injEq]; try (first | omega | (simp; done) | (simp; omega))) : callV P e f vs σ K := by
 refine callV_mk spec.1 fun μ Im w args rl hl => ?_
 have r0 : Rel [] (fun b => b < w.heap.size) [] w := ⟨rfl, fun o ob h => by simp at h, fun o o' ob ob' b n n' h => by simp at h, fun b hb => ⟨hb, fun hb' => by simp [live] at hb'⟩, fun e he => ⟨(rl.im _ (rl.lay e he).1).1, (rl.lay e he).2⟩⟩
 refine (spec.2 [] _ w args r0 (tVs_sound rl hm hl)).mono ?_
 rintro v w' ⟨u, s, μ₁, Im₁, r₁, s₁, hlen, hu, rfl, rfl⟩
 have hx : Ext [] w w' := s₁.ext.mono (by simp [live])
 obtain ⟨q1, q2⟩ := rl.still hx
 exact ⟨u, σ, μ, Im, q1, q2, fun _ => hx, pln0_rep hr hu, hk⟩
def pnP : PV → Bool
 | .lit _ => true
 | _ => false
def pnV : V → Bool
 | .lit _ => true
 | .ref _ _ _ _ => true
 | .sl _ _ _ _ => true
 | .agg l => pnL l
 | .tup l => pnL l
 | _ => false
where pnL : List V → Bool
 | [] => true
 | v :: vs => pnV v && pnL vs
def pnO : Ob → Prop
 | .cells l => pnV.pnL l = true
 | .row _ l => ∀ e ∈ l, ∀ p ∈ e, pnP p = true
 | _ => False
def pnS (s : St) : Prop := match s with
 | [] => True
 | none :: s => pnS s
 | some ob :: s => pnO ob ∧ pnS s
theorem pnS_get : ∀ {s : St} {j : Nat} {ob : Ob}, pnS s → s[j]? = some (some ob) → pnO ob
 | [], j, ob, _, h => by simp at h
 | x :: s, 0, ob, hs, h => by
  simp at h
  subst h
  exact hs.1
 | x :: s, j + 1, ob, hs, h => by
  have h' : s[j]? = some (some ob) := by simpa using h
  cases x with
  | none => exact pnS_get (s := s) hs h'
  | some y => exact pnS_get (s := s) hs.2 h'
theorem pnO_ints {kd : IntKind} {L : List Int} {z : Nat} : pnO (.row z (L.map (ie kd))) = True := eq_true fun e he p hp => by
 obtain ⟨x, _, rfl⟩ := List.mem_map.1 he
 simp only [ie, List.mem_singleton] at hp
 subst hp
 rfl
theorem pnO_bools {L : List Bool} {z : Nat} : pnO (.row z (L.map be)) = True := eq_true fun e he p hp => by
 obtain ⟨x, _, rfl⟩ := List.mem_map.1 he
 simp only [be, List.mem_singleton] at hp
 subst hp
 rfl
attribute [go_sem] pnO_ints pnO_bools
mutual
theorem pnV_rep {w : World} {Im Im' : Nat → Prop} {μ : Mu} : ∀ {u : V} {v : Value}, pnV u = true → RepV w Im μ u v → RepV w Im' μ u v
 | .lit x, v, _, h => by cases h with | lit h => exact .lit h
 | .ref _ _ _ _, _, _, h => by cases h with | ref h => exact .ref h
 | .sl _ _ _ _, _, _, h => by cases h with | sl h => exact .sl h
 | .agg l, v, hp, h => by
  cases h with
  | agg hn ho hr =>
   have := pnL_rep (Im' := Im') hp ⟨hn, hr⟩
   exact .agg this.1 ho this.2
 | .tup l, v, hp, h => by
  cases h with
  | tup hn hr =>
   have := pnL_rep (Im' := Im') hp ⟨hn, hr⟩
   exact .tup this.1 this.2
 | .row _ _, _, hp, _ => by simp [pnV] at hp
 | .xrow _ _, _, hp, _ => by simp [pnV] at hp
 | .rref _ _ _ _, _, hp, _ => by simp [pnV] at hp
 | .clo _ _, _, hp, _ => by simp [pnV] at hp
 | .mref _, _, hp, _ => by simp [pnV] at hp
theorem pnL_rep {w : World} {Im Im' : Nat → Prop} {μ : Mu} : ∀ {us : List V} {vs : List Value}, pnV.pnL us = true → RepL w Im μ us vs → RepL w Im' μ us vs
 | [], vs, _, hr => ⟨hr.1, by simp⟩
 | u :: us, vs, h, hr => by
  simp only [pnV.pnL, Bool.and_eq_true] at h
  obtain ⟨v, vs, rfl, h1, h2⟩ := hr.uncons
  exact .cons (pnV_rep h.1 h1) (pnL_rep h.2 h2)
end
theorem pnP_rep {w : World} {Im Im' : Nat → Prop} {p : PV} {c : Value} (hp : pnP p = true) (h : RepP w Im p c) : RepP w Im' p c := by
 cases h with
 | lit h => exact .lit h
 | row => simp [pnP] at hp
 | ptr => simp [pnP] at hp
theorem pnO_rep {w : World} {Im Im' : Nat → Prop} {μ : Mu} {loc : Option (Nat × Nat)} {ob : Ob} (hp : pnO ob) (h : RepO w Im μ loc ob) : RepO w Im' μ loc ob := by
 cases ob with
 | cells l =>
  obtain ⟨b, C, D, rfl, hB, ho, hl⟩ := h
  exact ⟨b, C, D, rfl, hB, ho, pnL_rep hp hl⟩
 | row z l =>
  obtain ⟨hz, h⟩ := h
  refine ⟨hz, ?_⟩
  rcases h with h | ⟨b, C, rfl, hB, hl, hr⟩
  ·
   exact .inl h
  ·
   refine .inr ⟨b, C, rfl, hB, hl, fun i c p h1 h2 => pnP_rep ?_ (hr i c p h1 h2)⟩
   obtain ⟨e, he, hpe⟩ := List.mem_flatten.1 (List.mem_of_getElem? h2)
   exact hp e he p hpe
 | map l => exact hp.elim
 | iter o n s => exact hp.elim
theorem callF {P : Program} {e : Bool} {f : FuncId} {vs vs₀ : List V} {σ s : St} {r : V} {K : KV} (spec : Fn1 P f vs₀ [] r s) (hk : K true (renV (fun j => σ.length + j) r) (σ ++ renS (fun j => σ.length + j) s))
  (hr : pnV r = true := by rfl) (hs : pnS s := by simp only [pnS, go_sem, and_self, and_true, true_and]; try (first | trivial | rfl | (simp; done)))
  (hm : mVs (fun _ => true) [] σ vs₀ vs := by simp (disch := (first | omega | (simp only [List.length_append, List.length_set, List.length_cons, List.length_nil, List.length_replicate, List.length_take, List.length_drop, List.length_map, List.length_range, true_and, and_true]; (try omega); done) | fail)) only [go_sem, Int.reduceEq, Int.reduceToNat, Nat.reduceAdd, Nat.reduceMul, Nat.reduceEqDiff, ↓reduceIte, true_and, and_true, and_self, List.drop_zero, List.take_length, Nat.le_refl, V.lit.injEq, Value.int.injEq, Value.bool.injEq]; try (first | omega | (simp; done) | (simp; omega))) : callV P e f vs σ K := by
 refine callV_mk spec.1 fun μ Im w args rl hl => ?_
 have r0 : Rel [] (fun b => b < w.heap.size) [] w := ⟨rfl, fun o ob h => by simp at h, fun o o' ob ob' b n n' h => by simp at h, fun b hb => ⟨hb, fun hb' => by simp [live] at hb'⟩, fun e he => ⟨(rl.im _ (rl.lay e he).1).1, (rl.lay e he).2⟩⟩
 refine (spec.2 [] _ w args r0 (tVs_sound rl hm hl)).mono ?_
 rintro v w' ⟨u, s', μ₁, Im₁, r₁, s₁, hlen, hu, rfl, rfl⟩
 have hx : Ext [] w w' := s₁.ext.mono (by simp [live])
 obtain ⟨q1, q2⟩ := rl.still hx
 have hN : μ.length = σ.length := rl.len
 have hfr : ∀ b ∈ live μ₁ s', w.heap.size ≤ b := fun b hb => by
  rcases s₁.live b hb with h | h
  ·
   simp [live] at h
  ·
   exact h
 have hf : ∀ (j : Nat) x, μ₁[j]? = some x → (μ ++ μ₁)[σ.length + j]? = some x := fun j x h => by
  rw [List.getElem?_append_right (by omega), ← h]
  congr 1; omega
 have hold : ∀ (j : Nat) x, μ[j]? = some x → (μ ++ μ₁)[j]? = some x := fun j x h => pre_get (List.prefix_append _ _) h
 have hmono : Mono μ Im w' (μ ++ μ₁) Im w' := ⟨List.prefix_append _ _, fun _ h => h, fun _ _ => rfl⟩
 have hsl : ∀ (o : Nat) ob, (σ ++ renS (fun j => σ.length + j) s')[o]? = some (some ob) → (o < σ.length ∧ σ[o]? = some (some ob)) ∨ ∃ j ob', o = σ.length + j ∧ s'[j]? = some (some ob') ∧ ob = renO (fun j => σ.length + j) ob' := fun o ob h => by
  rcases Nat.lt_or_ge o σ.length with ho | ho
  ·
   rw [List.getElem?_append_left ho] at h
   exact .inl ⟨ho, h⟩
  ·
   rw [List.getElem?_append_right ho, renS_eq, List.getElem?_map] at h
   cases hx : s'[o - σ.length]? with
   | none => rw [hx] at h; cases h
   | some y =>
    rw [hx] at h
    cases y with
    | none => simp [renX] at h
    | some y =>
     simp [renX] at h
     exact .inr ⟨o - σ.length, y, by omega, hx, h.symm⟩
 have hin : ∀ (o : Nat) x, (μ ++ μ₁)[o]? = some x → (o < σ.length ∧ μ[o]? = some x) ∨ (σ.length ≤ o ∧ μ₁[o - σ.length]? = some x) := fun o x h => by
  rcases Nat.lt_or_ge o σ.length with ho | ho
  ·
   rw [List.getElem?_append_left (by omega)] at h
   exact .inl ⟨ho, h⟩
  ·
   rw [List.getElem?_append_right (by omega), hN] at h
   exact .inr ⟨ho, h⟩
 have hlv : ∀ b, b ∈ live (μ ++ μ₁) (σ ++ renS (fun j => σ.length + j) s') → b ∈ live μ σ ∨ b ∈ live μ₁ s' := fun b hb => by
  obtain ⟨o, n, ob, h1, h2⟩ := mem_live.1 hb
  rcases hsl o ob h2 with ⟨ho, h⟩ | ⟨j, ob', rfl, hj, rfl⟩
  ·
   rcases hin o _ h1 with ⟨_, h'⟩ | ⟨h', _⟩
   ·
    exact .inl (mem_live.2 ⟨o, n, ob, h', h⟩)
   ·
    omega
  ·
   rcases hin _ _ h1 with ⟨h', _⟩ | ⟨_, h'⟩
   ·
    omega
   ·
    rw [show σ.length + j - σ.length = j by omega] at h'
    exact .inr (mem_live.2 ⟨j, n, ob', h', hj⟩)
 refine ⟨renV (fun j => σ.length + j) u, σ ++ renS (fun j => σ.length + j) s', μ ++ μ₁, Im, ⟨?_, ?_, ?_, ?_, q1.lay⟩, ⟨List.prefix_append _ _, fun _ h => h, hx.mono (by simp), fun b hb => ?_, fun _ h => .inl h⟩, fun _ => hx, (pnV_rep hr hu).ren hf, hk⟩
 ·
  rw [List.length_append, List.length_append, renS_eq, List.length_map, hN, r₁.len]
 ·
  intro o ob h
  rcases hsl o ob h with ⟨ho, h⟩ | ⟨j, ob', rfl, hj, rfl⟩
  ·
   obtain ⟨loc, h1, h2⟩ := q1.rep o ob h
   exact ⟨loc, hold _ _ h1, h2.mono hmono (fun _ _ _ => rfl)⟩
  ·
   obtain ⟨loc, h1, h2⟩ := r₁.rep j ob' hj
   exact ⟨loc, hf _ _ h1, (pnO_rep (pnS_get hs hj) h2).ren hf⟩
 ·
  intro o o' ob ob' b n n' h1 h2 h3 h4
  rcases hsl o ob h1 with ⟨ho, a1⟩ | ⟨j, x, rfl, a1, _⟩ <;> rcases hsl o' ob' h2 with ⟨ho', a2⟩ | ⟨j', x', rfl, a2, _⟩
  ·
   rcases hin _ _ h3 with ⟨_, b1⟩ | ⟨b1, _⟩
   ·
    rcases hin _ _ h4 with ⟨_, b2⟩ | ⟨b2, _⟩
    ·
     exact rl.inj o o' ob ob' b n n' a1 a2 b1 b2
    ·
     omega
   ·
    omega
  ·
   rcases hin _ _ h3 with ⟨_, b1⟩ | ⟨b1, _⟩
   ·
    rcases hin _ _ h4 with ⟨b2, _⟩ | ⟨_, b2⟩
    ·
     omega
    ·
     rw [show σ.length + j' - σ.length = j' by omega] at b2
     have c1 := rl.lt (mem_live.2 ⟨o, n, ob, b1, a1⟩)
     have c2 := hfr b (mem_live.2 ⟨j', n', x', b2, a2⟩)
     omega
   ·
    omega
  ·
   rcases hin _ _ h3 with ⟨b1, _⟩ | ⟨_, b1⟩
   ·
    omega
   ·
    rw [show σ.length + j - σ.length = j by omega] at b1
    rcases hin _ _ h4 with ⟨_, b2⟩ | ⟨b2, _⟩
    ·
     have c1 := rl.lt (mem_live.2 ⟨o', n', ob', b2, a2⟩)
     have c2 := hfr b (mem_live.2 ⟨j, n, x, b1, a1⟩)
     omega
    ·
     omega
  ·
   rcases hin _ _ h3 with ⟨b1, _⟩ | ⟨_, b1⟩
   ·
    omega
   ·
    rcases hin _ _ h4 with ⟨b2, _⟩ | ⟨_, b2⟩
    ·
     omega
    ·
     rw [show σ.length + j - σ.length = j by omega] at b1
     rw [show σ.length + j' - σ.length = j' by omega] at b2
     rw [r₁.inj j j' x x' b n n' a1 a2 b1 b2]
 ·
  intro b hb
  have hb' := rl.im b hb
  refine ⟨Nat.lt_of_lt_of_le hb'.1 hx.size, fun hl' => ?_⟩
  rcases hlv b hl' with h | h
  ·
   exact hb'.2 h
  ·
   have := hfr b h
   omega
 ·
  rcases hlv b hb with h | h
  ·
   exact .inl h
  ·
   exact .inr (hfr b h)
end Go.Vx

namespace Go.Vx
open Go.Eng Go.ChangeShapes Go.WideShapes
set_option linter.unusedSimpArgs false
set_option linter.unusedVariables false
inductive Sh where
 | int (k : IntKind)
 | bool
 | str
 | row (e : Sh)
 | nil
 | cons (a b : Sh)
def wd : Sh → Nat
 | .nil => 0
 | .cons a b => wd a + wd b
 | _ => 1
def Dt : Sh → Type
 | .int _ => Int
 | .bool => Bool
 | .str => ByteArray
 | .row e => List (Dt e)
 | .nil => Unit
 | .cons a b => Dt a × Dt b
def okD : (s : Sh) → Dt s → Prop
 | .int k, n => @LE.le Int _ k.min n ∧ @LE.le Int _ n k.max
 | .bool, _ => True
 | .str, s => ByteArray.size s ≤ maxLen
 | .row e, l => List.length (α := Dt e) l ≤ maxLen ∧ ∀ x : Dt e, @Membership.mem (Dt e) (List (Dt e)) _ l x → okD e x
 | .nil, _ => True
 | .cons a b, d => okD a d.1 ∧ okD b d.2
def pvs : (s : Sh) → Dt s → List PV
 | .int k, n => [.lit (.int k n)]
 | .bool, b => [.lit (.bool b)]
 | .str, s => [.lit (.string s)]
 | .row e, l => [.row (wd e) (List.map (pvs e) l)]
 | .nil, _ => []
 | .cons a b, d => pvs a d.1 ++ pvs b d.2
theorem pvs_len : ∀ (s : Sh) (d : Dt s), (pvs s d).length = wd s
 | .int _, _ => rfl
 | .bool, _ => rfl
 | .str, _ => rfl
 | .row _, _ => rfl
 | .nil, _ => rfl
 | .cons a b, d => by
  show (pvs a d.1 ++ pvs b d.2).length = wd a + wd b
  rw [List.length_append, pvs_len a, pvs_len b]
def repS (s : Sh) : Nat → Sh
 | 0 => .nil
 | n + 1 => .cons s (repS s n)
def shFs (P : Program) (sh : TypeId → Option Sh) : List Field → Nat → Option Sh
 | [], _ => some .nil
 | f :: fs, o => match sh f.type with
  | some s => if f.offset = o ∧ P.cellsOf f.type = wd s then (shFs P sh fs (o + wd s)).map (Sh.cons s) else none
  | none => none
def shOf (P : Program) : Nat → TypeId → Option Sh
 | 0, _ => none
 | n + 1, t => match P.underlying t with
  | some .bool => some .bool
  | some (.int k) => some (.int k)
  | some .string => some .str
  | some (.slice e) => (match shOf P n e with | some s => if P.cellsOf e = wd s then some (.row s) else none | none => none)
  | some (.struct fs) => (match shFs P (shOf P n) fs.toList 0 with | some s => if P.cellsOf t = wd s then some s else none | none => none)
  | some (.array m e) => (match shOf P n e with | some s => if P.cellsOf e = wd s ∧ P.cellsOf t = wd (repS s m) then some (repS s m) else none | none => none)
  | _ => none
theorem int_bounds {k : IntKind} {n : Int} (h : (Lit.int k n).wf = true) : k.min ≤ n ∧ n ≤ k.max := Go.Proofs.YtdohmppildfjhaaGreatDoor.wf_bounds h
def Told (w : World) (s : Sh) (cs : List Value) : Prop := cs.length = wd s ∧ (∀ c ∈ cs, oneC c = true) ∧ ∃ d, okD s d ∧ ∀ (i : Nat) c p, cs[i]? = some c → (pvs s d)[i]? = some p → RepP w (fun b => b < w.heap.size) p c
theorem Told.append {w : World} {a b : Sh} {xs ys : List Value} (h : Told w a xs) (k : Told w b ys) : Told w (.cons a b) (xs ++ ys) := by
 obtain ⟨h1, h2, d, h3, h4⟩ := h
 obtain ⟨k1, k2, e, k3, k4⟩ := k
 refine ⟨by rw [List.length_append, h1, k1]; rfl, fun c hc => ?_, (d, e), ⟨h3, k3⟩, fun i c p hc hp => ?_⟩
 ·
  rcases List.mem_append.1 hc with h | h
  ·
   exact h2 c h
  ·
   exact k2 c h
 ·
  have hp' : (pvs a d ++ pvs b e)[i]? = some p := hp
  have hl := pvs_len a d
  rcases Nat.lt_or_ge i xs.length with hi | hi
  ·
   rw [List.getElem?_append_left hi] at hc
   rw [List.getElem?_append_left (by omega)] at hp'
   exact h4 i c p hc hp'
  ·
   rw [List.getElem?_append_right hi] at hc
   rw [List.getElem?_append_right (by omega)] at hp'
   rw [hl, ← h1] at hp'
   exact k4 _ c p hc hp'
section
variable {H : Type} {enc : TypeId × Value → H} {P : Program} {w : World} {base : Nat} {spare : Nat → Bool} {held : Bool}
theorem take_drop_add {α : Type} (l : List α) (o a : Nat) : (l.drop o).take a ++ l.drop (o + a) = l.drop o := by
 rw [← List.drop_drop, List.take_append_drop]
theorem told_fs {n m : Nat} {cs : List Value} (ih : ∀ t s, shOf P n t = some s → ∀ fuel cs (x : DataW H × List MemPlace), DataW.trod enc P w base spare held fuel t cs = some x → Told w s cs) :
  ∀ (fs : List Field) (o : Nat) (s : Sh), shFs P (shOf P n) fs o = some s → cs.length = o + wd s → (∀ (i : Nat) (f : Field), fs[i]? = some f → ∃ x, DataW.trod enc P w base spare held m f.type ((cs.drop f.offset).take (P.cellsOf f.type)) = some x) → Told w s (cs.drop o)
 | [], o, s, h, hl, hf => by
  cases h
  exact ⟨by simp [hl], fun c hc => by rw [List.drop_of_length_le (by rw [hl]; exact Nat.le_refl _)] at hc; simp at hc, (), trivial, fun i c p _ hp => by cases hp⟩
 | f :: fs, o, s, h, hl, hf => by
  unfold shFs at h
  split at h
  ·
   rename_i sf hsf
   split at h
   ·
    rename_i hc
    obtain ⟨rfl, hcf⟩ := hc
    cases hr : shFs P (shOf P n) fs (f.offset + wd sf) with
    | none => rw [hr] at h; cases h
    | some r =>
     rw [hr] at h
     cases h
     obtain ⟨x, hx⟩ := hf 0 f rfl
     rw [hcf] at hx
     have h1 := ih _ _ hsf _ _ _ hx
     have h2 := told_fs ih fs (f.offset + wd sf) r hr (by rw [hl]; show f.offset + (wd sf + wd r) = _; omega) (fun i g hg => hf (i + 1) g (by simpa using hg))
     rw [← take_drop_add cs f.offset (wd sf)]
     exact h1.append h2
   ·
    cases h
  ·
   cases h
theorem told_rep {n m : Nat} {cs : List Value} {e : TypeId} {se : Sh} (hse : ∀ fuel cs (x : DataW H × List MemPlace), DataW.trod enc P w base spare held fuel e cs = some x → Told w se cs) (hc : P.cellsOf e = wd se) :
  ∀ (k i : Nat), i + k = m → cs.length = i * wd se + wd (repS se k) → (∀ j, j < m → ∃ x, DataW.trod enc P w base spare held n e ((cs.drop (j * P.cellsOf e)).take (P.cellsOf e)) = some x) → Told w (repS se k) (cs.drop (i * wd se))
 | 0, i, hk, hl, hf => ⟨by simp [hl, repS, wd], fun c hc => by rw [List.drop_of_length_le (by rw [hl]; exact Nat.le_refl _)] at hc; simp at hc, (), trivial, fun i c p _ hp => by cases hp⟩
 | k + 1, i, hk, hl, hf => by
  obtain ⟨x, hx⟩ := hf i (by omega)
  rw [hc] at hx
  have h1 := hse _ _ _ hx
  have h2 := told_rep hse hc k (i + 1) (by omega) (by rw [hl, Nat.add_mul, Nat.one_mul]; show _ + (wd se + wd (repS se k)) = _; omega) hf
  rw [← take_drop_add cs (i * wd se) (wd se)]
  rw [Nat.add_mul, Nat.one_mul] at h2
  exact h1.append h2
theorem flat_at {α : Type} {z : Nat} (f : Nat → List α) (hz : ∀ i, (f i).length = z) : ∀ (n i r : Nat), i < n → r < z → ((List.range n).flatMap f)[i * z + r]? = (f i)[r]?
 | 0, i, r, hi, _ => by omega
 | n + 1, i, r, hi, hr => by
  have hl : ∀ m, ((List.range m).flatMap f).length = m * z := fun m => by
   induction m with
   | zero => simp
   | succ m ih => rw [List.range_succ, List.flatMap_append, List.length_append, ih]; simp [hz, Nat.add_mul]
  rw [List.range_succ, List.flatMap_append]
  by_cases h : i < n
  ·
   have hm : i * z + z ≤ n * z := by
    have := Nat.mul_le_mul_right z (show i + 1 ≤ n by omega)
    rw [Nat.add_mul, Nat.one_mul] at this
    exact this
   rw [List.getElem?_append_left (by rw [hl]; omega)]
   exact flat_at f hz n i r h hr
  ·
   obtain rfl : i = n := by omega
   rw [List.getElem?_append_right (by rw [hl]; omega), hl, show i * z + r - i * z = r by omega]
   simp
theorem flat_length {α : Type} {z : Nat} (f : Nat → List α) (hz : ∀ i, (f i).length = z) (m : Nat) : ((List.range m).flatMap f).length = m * z := by
 induction m with
 | zero => simp
 | succ m ih => rw [List.range_succ, List.flatMap_append, List.length_append, ih]; simp [hz, Nat.add_mul]
theorem told : ∀ (n : Nat) (t : TypeId) (s : Sh), shOf P n t = some s → ∀ (fuel : Nat) (cs : List Value) (x : DataW H × List MemPlace), DataW.trod enc P w base spare held fuel t cs = some x → Told w s cs
 | 0, t, s, h, _, _, _, _ => by cases h
 | n + 1, t, s, h, fuel, cs, x, hx => by
  have ih := told n
  unfold shOf at h
  split at h
  ·
   rename_i ht
   cases h
   obtain ⟨b, rfl, _⟩ := DataW.trod_bool ht hx
   exact ⟨rfl, fun c hc => by simp at hc; subst hc; rfl, b, trivial, fun i c p hc hp => by
    cases i with
    | zero => cases hc; cases hp; exact .lit rfl
    | succ i => simp at hc⟩
  ·
   rename_i k ht
   cases h
   obtain ⟨m, rfl, _, hw⟩ := DataW.trod_int ht hx
   exact ⟨rfl, fun c hc => by simp at hc; subst hc; rfl, m, int_bounds hw, fun i c p hc hp => by
    cases i with
    | zero => cases hc; cases hp; exact .lit rfl
    | succ i => simp at hc⟩
  ·
   rename_i ht
   cases h
   obtain ⟨b, rfl, _, hw⟩ := DataW.trod_string ht hx
   exact ⟨rfl, fun c hc => by simp at hc; subst hc; rfl, b, hw, fun i c p hc hp => by
    cases i with
    | zero => cases hc; cases hp; exact .lit rfl
    | succ i => simp at hc⟩
  ·
   rename_i e ht
   split at h
   ·
    rename_i se hse
    split at h
    ·
     rename_i hc
     cases h
     have ihe := ih e se hse
     rcases Go.Deep.open_slice ht hx with ⟨rfl, _⟩ | ⟨a, len, cap, m, nn, D, Pl, rfl, hb, hl, hm, hmm, _, hall⟩
     ·
      refine ⟨rfl, fun c hc => by simp at hc; subst hc; rfl, ([] : List (Dt se)), ⟨by simp, by simp⟩, fun i c p hc hp => ?_⟩
      cases i with
      | zero =>
       cases hc; cases hp
       exact .row (C := []) rfl (Nat.le_refl _) (by simp) (Row.nil _ _) (fun h => absurd rfl h) (by simp) (by simp) (by simp)
      | succ i => simp at hc
     ·
      have hlm : len ≤ m := by rw [hmm]; split <;> omega
      by_cases h0 : len = 0
      ·
       subst h0
       refine ⟨rfl, fun c hc => by simp at hc; subst hc; rfl, ([] : List (Dt se)), ⟨by simp, by simp⟩, fun i c p hc hp => ?_⟩
       cases i with
       | zero =>
        cases hc; cases hp
        exact .row (C := []) rfl (Nat.zero_le _) (by simp) (Row.nil _ _) (fun h => absurd rfl h) (by simp) (by simp) (by simp)
       | succ i => simp at hc
      have h1 : ∀ i, i < len → ∃ cd : List Value × Dt se, cd.1.length = wd se ∧ (∀ c ∈ cd.1, oneC c = true) ∧ okD se cd.2 ∧ (∀ (r : Nat) c p, cd.1[r]? = some c → (pvs se cd.2)[r]? = some p → RepP w (fun b => b < w.heap.size) p c) ∧ ∀ r, r < wd se → w.cell? (a.add (i * wd se + r)) = cd.1[r]? := fun i hi => by
       obtain ⟨cs', hcs, htr⟩ := hall i (by omega)
       obtain ⟨q1, q2, d, q3, q4⟩ := ihe _ _ _ htr
       refine ⟨(cs', d), q1, q2, q3, q4, fun r hr => ?_⟩
       rw [hc] at hcs
       unfold World.cells? at hcs
       split at hcs
       ·
        have := mapM_some_get hcs r r (by rw [List.getElem?_range hr])
        rw [← this]
        congr 1
        unfold Addr.add
        split <;> split <;> (try split) <;> simp_all <;> omega
       ·
        cases hcs
      have h2 : ∀ i, ∃ cd : List Value × Dt se, cd.1.length = wd se ∧ (∀ c ∈ cd.1, oneC c = true) ∧ okD se cd.2 ∧ (∀ (r : Nat) c p, cd.1[r]? = some c → (pvs se cd.2)[r]? = some p → RepP w (fun b => b < w.heap.size) p c) ∧ (i < len → ∀ r, r < wd se → w.cell? (a.add (i * wd se + r)) = cd.1[r]?) := fun i => by
       by_cases hi : i < len
       ·
        obtain ⟨cd, a1, a2, a3, a4, a5⟩ := h1 i hi
        exact ⟨cd, a1, a2, a3, a4, fun _ => a5⟩
       ·
        obtain ⟨cd, a1, a2, a3, a4, a5⟩ := h1 0 (by omega)
        exact ⟨cd, a1, a2, a3, a4, fun h => absurd h hi⟩
      obtain ⟨F, hF⟩ := Classical.axiomOfChoice h2
      have hfl := flat_length (fun i => (F i).1) (fun i => (hF i).1) len
      have hget : ∀ i c, ((List.range len).flatMap fun i => (F i).1)[i]? = some c → i / wd se < len ∧ (F (i / wd se)).1[i % wd se]? = some c := fun i c hc => by
       have hi := (List.getElem?_eq_some_iff.1 hc).1
       rw [hfl] at hi
       have hz : 0 < wd se := by
        rcases Nat.eq_zero_or_pos (wd se) with h | h
        ·
         rw [h] at hi; omega
        ·
         exact h
       have hq : i / wd se < len := (Nat.div_lt_iff_lt_mul hz).2 hi
       refine ⟨hq, ?_⟩
       have := flat_at (fun i => (F i).1) (fun i => (hF i).1) len (i / wd se) (i % wd se) hq (Nat.mod_lt _ hz)
       rw [Nat.mul_comm, Nat.div_add_mod] at this
       rw [← this, hc]
      have hpl : (((List.range len).map fun i => (F i).2).map (pvs se)).flatten = (List.range len).flatMap fun i => pvs se (F i).2 := by
       rw [List.map_map]; rfl
      refine ⟨rfl, fun c hc => by simp at hc; subst hc; rfl, ((List.range len).map fun i => (F i).2 : List (Dt se)), ⟨by simp; omega, fun x hx => ?_⟩, fun i c p hc hp => ?_⟩
      ·
       obtain ⟨i, _, rfl⟩ := List.mem_map.1 hx
       exact (hF i).2.2.1
      ·
       cases i with
       | succ i => simp at hc
       | zero =>
        cases hc; cases hp
        refine .row (C := (List.range len).flatMap fun i => (F i).1) (by simp) hl (fun e he => ?_) (Go.Proofs.YtdohmppildfjhaaGreatDoor.row_cells (fun i hi => ?_)) (fun hne => ?_) hfl (fun c hc => ?_) (fun i c p hc hp => ?_)
        ·
         obtain ⟨d, _, rfl⟩ := List.mem_map.1 he
         exact pvs_len _ _
        ·
         have hg := List.getElem?_eq_getElem hi
         obtain ⟨g1, g2⟩ := hget i _ hg
         have hz : 0 < wd se := by
          rcases Nat.eq_zero_or_pos (wd se) with h | h
          ·
           rw [hfl, h] at hi; omega
          ·
           exact h
         have := (hF (i / wd se)).2.2.2.2 g1 (i % wd se) (Nat.mod_lt _ hz)
         rw [Nat.mul_comm, Nat.div_add_mod, g2] at this
         exact this
        ·
         have hpos : 0 < ((List.range len).flatMap fun i => (F i).1).length := List.length_pos_iff.2 hne
         obtain ⟨g1, g2⟩ := hget 0 _ (List.getElem?_eq_getElem hpos)
         have hz : 0 < wd se := by
          rcases Nat.eq_zero_or_pos (wd se) with h | h
          ·
           rw [hfl, h] at hpos; omega
          ·
           exact h
         have := (hF 0).2.2.2.2 (by omega) 0 hz
         rw [Nat.zero_mul, Nat.zero_add] at this
         have e0 : (F 0).1[0]? = some (((List.range len).flatMap fun i => (F i).1)[0]) := by simpa using g2
         rw [e0] at this
         have := World.block_lt_of_cell? _ _ this
         simpa [ab, Addr.add] using this
        ·
         obtain ⟨i, hi, rfl⟩ := List.mem_iff_getElem.1 hc
         obtain ⟨g1, g2⟩ := hget i _ (List.getElem?_eq_getElem hi)
         exact (hF (i / wd se)).2.1 _ (List.mem_of_getElem? g2)
        ·
         obtain ⟨g1, g2⟩ := hget i _ hc
         rw [hpl] at hp
         have hi := (List.getElem?_eq_some_iff.1 hc).1
         have hz : 0 < wd se := by
          rcases Nat.eq_zero_or_pos (wd se) with h | h
          ·
           rw [hfl, h] at hi; omega
          ·
           exact h
         have := flat_at (fun i => pvs se (F i).2) (fun i => pvs_len _ _) len (i / wd se) (i % wd se) g1 (Nat.mod_lt _ hz)
         rw [Nat.mul_comm, Nat.div_add_mod, hp] at this
         exact (hF (i / wd se)).2.2.2.1 _ c p g2 this.symm
    ·
     cases h
   ·
    cases h
  ·
   rename_i fs ht
   split at h
   ·
    rename_i s' hs
    split at h
    ·
     rename_i hc
     cases h
     obtain ⟨xs, m, rfl, _, hlen, hxl, hall⟩ := DataW.trod_struct ht hx
     have := told_fs (m := m) (cs := cs) ih fs.toList 0 s hs (by rw [hlen, hc]; omega) (fun i f hf => by
      have hf' : fs[i]? = some f := by simpa using hf
      have hi : i < xs.length := by
       have := (Array.getElem?_eq_some_iff.1 hf').1
       omega
      exact ⟨xs[i], by rw [hall i f hf', List.getElem?_eq_getElem hi]⟩)
     simpa using this
    ·
     cases h
   ·
    cases h
  ·
   rename_i m e ht
   split at h
   ·
    rename_i se hse
    split at h
    ·
     rename_i hc
     cases h
     obtain ⟨xs, mm, rfl, _, hlen, hxl, hall⟩ := DataW.trod_array ht hx
     have := told_rep (n := mm) (m := m) (cs := cs) (e := e) (ih e se hse) hc.1 m 0 (by omega) (by rw [hlen, hc.2]; omega) (fun j hj => ⟨xs[j]'(by omega), by rw [hall j hj, List.getElem?_eq_getElem (by omega)]⟩)
     simpa using this
    ·
     cases h
   ·
    cases h
  ·
   cases h
def vOf : (s : Sh) → Dt s → V
 | .int k, n => .lit (.int k n)
 | .bool, b => .lit (.bool b)
 | .str, s => .lit (.string s)
 | .row e, l => .row (wd e) (List.map (pvs e) l)
 | .nil, _ => .agg []
 | .cons a b, d => .agg ((pvs (.cons a b) d).map V.ofP)
theorem open_arg {n : Nat} {t : TypeId} {s : Sh} {v : Value} {d : DataW H} {ps : List MemPlace} {r : Reach} {b0 : Nat} (hs : shOf P n t = some s) (hk : DataW.Trod enc P w base spare held t v d ps) (hv : Value.okWide P w r b0 t v) :
  ∃ d : Dt s, okD s d ∧ RepV w (fun b => b < w.heap.size) [] (vOf s d) v := by
 obtain ⟨fuel, hf⟩ := hk
 have ht := told n t s hs fuel _ _ hf
 obtain ⟨hl, ho, d, hd, hr⟩ := ht
 refine ⟨d, hd, ?_⟩
 have agg : ∀ cs : Array Value, v = .agg cs → ∀ ps : List PV, cs.toList.length = ps.length → (∀ (i : Nat) c p, v.cells.toList[i]? = some c → ps[i]? = some p → RepP w (fun b => b < w.heap.size) p c) → RepV w (fun b => b < w.heap.size) [] (.agg (ps.map V.ofP)) v := fun cs e ps hlen hrr => by
  subst e
  have := RepV.agg (w := w) (Im := fun b => b < w.heap.size) (μ := []) (l := ps.map V.ofP) (C := cs.toList) (by simpa using hlen) ho (fun i u c h1 h2 => by
   rw [List.getElem?_map] at h1
   cases hp : ps[i]? with
   | none => rw [hp] at h1; cases h1
   | some p => rw [hp] at h1; cases h1; exact (hrr i c p h2 hp).toV)
  simpa using this
 cases n with
 | zero => cases hs
 | succ n =>
  unfold shOf at hs
  split at hs
  ·
   rename_i hu
   cases hs
   obtain ⟨b, rfl⟩ := okWide_bool hu hv
   exact (hr 0 _ _ rfl rfl).toV
  ·
   rename_i k hu
   cases hs
   obtain ⟨b, rfl⟩ := okWide_int hu hv
   exact (hr 0 _ _ rfl rfl).toV
  ·
   rename_i hu
   cases hs
   obtain ⟨b, rfl⟩ := okWide_string hu hv
   exact (hr 0 _ _ rfl rfl).toV
  ·
   rename_i e hu
   split at hs
   ·
    split at hs
    ·
     cases hs
     obtain ⟨a, len, cap, rfl⟩ := okWide_slice hu hv
     exact (hr 0 _ _ rfl rfl).toV
    ·
     cases hs
   ·
    cases hs
  ·
   rename_i fs hu
   split at hs
   ·
    rename_i s' hs'
    split at hs
    ·
     cases hs
     obtain ⟨cs, rfl, _⟩ := okWide_struct hu hv
     have hA := agg cs rfl (pvs s d) (by rw [pvs_len]; exact hl) hr
     cases hq : fs.toList with
     | nil => rw [hq] at hs'; cases hs'; exact hA
     | cons f fs' =>
      rw [hq] at hs'
      unfold shFs at hs'
      split at hs'
      ·
       split at hs'
       ·
        cases hx : shFs P (shOf P n) fs' (0 + wd ‹Sh›) with
        | none => rw [hx] at hs'; cases hs'
        | some r => rw [hx] at hs'; cases hs'; exact hA
       ·
        cases hs'
      ·
       cases hs'
    ·
     cases hs
   ·
    cases hs
  ·
   rename_i m e hu
   split at hs
   ·
    rename_i se hse
    split at hs
    ·
     cases hs
     have hcs : ∃ cs, v = .agg cs := by
      simp only [Value.okWide, hu] at hv
      obtain ⟨cs, h1, _⟩ := hv
      exact ⟨cs, h1⟩
     obtain ⟨cs, rfl⟩ := hcs
     have hA := agg cs rfl (pvs (repS se m) d) (by rw [pvs_len]; exact hl) hr
     cases m with
     | zero => exact hA
     | succ m => exact hA
    ·
     cases hs
   ·
    cases hs
  ·
   cases hs
end
end Go.Vx
