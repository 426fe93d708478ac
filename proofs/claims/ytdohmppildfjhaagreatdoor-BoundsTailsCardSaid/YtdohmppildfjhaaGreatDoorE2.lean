import Derived.Test.YtdohmppildfjhaaGreatDoorE1
import Derived.OrdersHeld
namespace Go.Eng
set_option linter.unusedSimpArgs false
set_option linter.unusedVariables false

def scaK (P : Program) (f : FuncId) (args : List Value) (w : World) (K : Bool → Value → Prop) : Prop :=
 (∀ (args : Array Value) (w : World), (callFunc f args).run P w = .ok (.enter f args) w) ∧ ∃ v, Calls P f args.toArray w (fun e w' => e = .returned v ∧ w' = w) ∧ K true v

def stoK (τ : Bool) (P : Program) (o : Oper) (ρ : Rg) (w : World) (K : Bool → Value → Prop) : Prop :=
 match o.op with
 | .call c => match c.callee with
  | .value f => evK ρ f fun f => evsK ρ c.args.toList fun args =>
   match f with
   | .func (.func g) first captured => if first = #[] ∧ captured = #[] then scaK P g args w K else False
   | _ => False
  | .builtin b => evsK ρ c.args.toList fun args => runK P (builtin b c.argTypes o.type (c.args.map fun | .const _ => true | _ => false) args.toArray) w fun n w' => match n with | .value v => w' = w ∧ K true v | _ => False
  | _ => False
 | .store .. | .mapUpdate .. | .insert .. | .range .. | .next .. | .entry .. => False
 | _ => opK τ P o ρ w fun τ v w' => w' = w ∧ K τ v

theorem still_of_runK {P : Program} {o : Oper} {a : Act} {w : World} {s : Sem Value} {K : Bool → Value → Prop} {next : Act → Prop}
  (he : execOp a.eval o = (do pure (.value (← s)))) (h : runK P s w fun v w' => w' = w ∧ K true v) (hn : ∀ v, K true v → next (a.put o.dst v)) : o.still P a w next := by
 unfold Oper.still
 rw [he]
 unfold runK at h
 rw [Sem.run_bind]
 cases hs : s.run P w with
 | ok v w' => rw [hs] at h; exact ⟨h.1, hn _ h.2⟩
 | halt x w' => rw [hs] at h; exact h.elim
theorem still_value {P : Program} {o : Oper} {a : Act} {w : World} {v : Value} {next : Act → Prop} (he : (execOp a.eval o).run P w = .ok (.value v) w) (hn : next (a.put o.dst v)) : o.still P a w next := by
 unfold Oper.still
 rw [he]
 exact ⟨rfl, hn⟩

theorem stillUpon_of {P : Program} {o : Oper} {a : Act} {w : World} {r : Result Next} {K : Bool → Value → Prop} {next : Act → Prop}
  (h : resK r fun n w' => match n with | .value v => w' = w ∧ K true v | _ => False) (hn : ∀ v, K true v → next (a.put o.dst v)) : o.stillUpon P a w next r := by
 cases r with
 | halt x w' => exact h.elim
 | ok m w' =>
  cases m with
  | value v => exact ⟨h.1, hn _ h.2⟩
  | _ => exact (h : False).elim
theorem still_of_runN {P : Program} {o : Oper} {a : Act} {w : World} {s : Sem Next} {K : Bool → Value → Prop} {next : Act → Prop}
  (he : execOp a.eval o = s) (h : runK P s w fun n w' => match n with | .value v => w' = w ∧ K true v | _ => False) (hn : ∀ v, K true v → next (a.put o.dst v)) : o.still P a w next := by
 unfold Oper.still
 rw [he]
 exact stillUpon_of h hn

set_option maxHeartbeats 2000000 in
theorem sto_sound {τ : Bool} {n : Nat} {P : Program} {o : Oper} {a : Act} {ρ : Rg} {w : World} {K : Bool → Value → Prop} {next : Act → Prop}
  (hok : Ok n a ρ) (h : stoK τ P o ρ w K) (hn : ∀ v, K true v → next (a.put o.dst v)) : o.still P a w next := by
 obtain ⟨dst, op, ty, pos, after, guard⟩ := o
 cases op with
 | move x => exact still_value rfl (hn _ (evK_sound hok (K := fun v => w = w ∧ K true v) h).2)
 | assign x => exact still_value rfl (hn _ (evK_sound hok (K := fun v => w = w ∧ K true v) h).2)
 | pick c x y =>
  have h1 := evK_sound hok h
  have h2 := evK_sound hok h1
  have h3 := evK_sound hok h2
  cases hc : a.eval c with
  | bool t => rw [hc] at h3; exact still_value (v := bif t then a.eval x else a.eval y) (by simp only [execOp, hc, asBool, pure_bind]; cases t <;> rfl) (hn _ h3.2)
  | _ => rw [hc] at h3; exact h3.elim
 | alloc t => exact still_of_runK (s := Instr.alloc t true (.tuple #[])) rfl h hn
 | box t x => exact still_of_runK (s := Instr.box t (a.eval x)) rfl (evK_sound hok h) hn
 | build t ps =>
  have h1 := evpK_sound hok h
  refine still_of_runK (s := Instr.build t (ps.map fun (i, x) => (i, a.eval x))) rfl ?_ hn
  have e : (ps.map fun (i, x) => (i, a.eval x)) = (ps.toList.map fun (i, x) => (i, a.eval x)).toArray := by
   rw [← Array.toList_map, Array.toArray_toList]
  exact e ▸ h1
 | buildSlice t m ps =>
  have h1 := evpK_sound hok h
  refine still_of_runK (s := Instr.buildSlice t m (ps.map fun (i, x) => (i, a.eval x))) rfl ?_ hn
  have e : (ps.map fun (i, x) => (i, a.eval x)) = (ps.toList.map fun (i, x) => (i, a.eval x)).toArray := by
   rw [← Array.toList_map, Array.toArray_toList]
  exact e ▸ h1
 | load t x =>
  obtain ⟨v, h1, h2⟩ := loadK_run (evK_sound hok h)
  exact still_of_runK (s := Instr.loadAt t (a.eval x)) rfl (by unfold runK; rw [h1]; exact h2) hn
 | nilCheck x =>
  have h1 := evK_sound hok h
  split at h1
  ·
   rename_i b hb; exact still_value (by simp only [execOp, hb]; rfl) (hn _ h1.2)
  ·
   rename_i f l c hb; exact still_value (by simp only [execOp, hb]; rfl) (hn _ h1.2)
  ·
   exact h1.elim
 | binOp op t x y yt => exact still_of_runK (s := do eqGuard op t x y (a.eval x) (a.eval y); binOp op t (a.eval x) (a.eval y)) rfl (evK_sound hok (evK_sound hok h)) hn
 | unOp op t x => exact still_of_runK (s := Op.unary op (a.eval x)) rfl (evK_sound hok h) hn
 | convert s d x => exact still_of_runK (s := Go.convert s d (a.eval x)) rfl (evK_sound hok h) hn
 | makeInterface t x => exact still_of_runK (s := Instr.makeInterface t (a.eval x)) rfl (evK_sound hok h) hn
 | makeFunc fn first captured =>
  have h1 := evsK_sound hok (evsK_sound hok h)
  simp only [← Array.toList_map, Array.toArray_toList] at h1
  exact still_value rfl (hn _ h1.2)
 | makeMap t r => exact still_of_runK (s := Instr.makeMap t (r.map a.eval)) rfl (evoK_sound hok h) hn
 | makeSlice t l c => exact still_of_runK (s := Instr.makeSlice t (a.eval l) (a.eval c)) rfl (evK_sound hok (evK_sound hok h)) hn
 | slice t x lo hi mx => exact still_of_runK (s := Instr.sliceAt t (a.eval x) (lo.map a.eval) (hi.map a.eval) (mx.map a.eval)) rfl (evoK_sound hok (evoK_sound hok (evoK_sound hok (evK_sound hok h)))) hn
 | fieldAddr s x f => exact still_of_runK (s := Instr.fieldAt s (a.eval x) f) rfl (evK_sound hok h) hn
 | field s x f => exact still_of_runK (s := Instr.field s (a.eval x) f) rfl (evK_sound hok h) hn
 | indexAddr t x i => exact still_of_runK (s := Instr.indexAt t (a.eval x) (a.eval i)) rfl (evK_sound hok (evK_sound hok h)) hn
 | index t x i => exact still_of_runK (s := Instr.index t (a.eval x) (a.eval i)) rfl (evK_sound hok (evK_sound hok h)) hn
 | lookup t x i c => exact still_of_runK (s := Instr.lookup t (a.eval x) (a.eval i) c) rfl (evK_sound hok (evK_sound hok h)) hn
 | typeAssert x xt at_ c => exact still_of_runK (s := Instr.typeAssert (a.eval x) xt at_ c) rfl (evK_sound hok h) hn
 | extract t i => exact still_of_runK (s := Instr.extract (a.eval t) i) rfl (evK_sound hok h) hn
 | call c =>
  obtain ⟨callee, args, ats⟩ := c
  cases callee with
  | value f =>
   have h1 := evsK_sound hok (evK_sound hok h)
   split at h1
   ·
    rename_i g first captured hf
    split at h1
    ·
     rename_i he
     obtain ⟨rfl, rfl⟩ := he
     obtain ⟨hc, v, hcall, hk⟩ := h1
     simp only [← Array.toList_map, Array.toArray_toList] at hcall
     unfold Oper.still
     simp only [execOp, resolve, hf, Deferred.ofValue, pure_bind, invoke, Array.empty_append, Array.append_empty, hc]
     exact ⟨rfl, v, hcall, hn _ hk⟩
    ·
     exact h1.elim
   ·
    exact h1.elim
  | builtin b =>
   have h1 := evsK_sound hok h
   simp only [← Array.toList_map, Array.toArray_toList] at h1
   exact still_of_runN rfl h1 hn
  | invoke r name => exact (h : False).elim
 | _ => exact (h : False).elim

def stosK (τ : Bool) (P : Program) (all : Array Oper) : List Oper → Rg → World → (Bool → Rg → Prop) → Prop
 | [], ρ, _, K => K true ρ
 | o :: r, ρ, w, K =>
  match o.guard with
  | none => stoK τ P o ρ w fun τ v => stosK τ P all r (put ρ o.dst v) w K
  | some (j, want) =>
   match (all[j]?).bind (·.dst) with
   | some t => lk ρ t fun g => gdK g want (fun τ => stoK τ P o ρ w fun τ v => stosK τ P all r (put ρ o.dst v) w K) (fun τ => stosK τ P all r (put ρ o.dst undef) w K)
   | none => False




section
variable {P : Program} {n : Nat} {ρ : Rg} {w : World} {K : Bool → Rg → Prop} {k : Bool → Value → Prop}
variable {all : List Oper} {r : List Oper} {d : Option Nat} {dn : Nat} {op : Op} {ty t : TypeId} {pos : String} {af : Array Edge} {g : Option (Nat × Bool)} {x y : Operand}
def samK (k : Bool → Value → Prop) (w : World) : Kv := fun τ v w' => w' = w ∧ k τ v
end
end Go.Eng

namespace Go.Eng
set_option linter.unusedSimpArgs false
set_option linter.unusedVariables false

theorem Ext.cellOf {w w' : World} (h : Ext [] w w') {x : Addr} {v : Value} (hc : w.cell? x = some v) : w'.cell? x = some v := by
 have hl := World.block_lt_of_cell? _ _ hc
 unfold World.cell? at *
 rw [h.block _ hl (by simp)]
 exact hc

section
variable {P : Program} {ops : Array Oper} {Q : Exit → Act → World → Prop} {md : Region.Mode} {wr : Nat → Bool}

def wpAnyE (P : Program) (md : Region.Mode) (ops : Array Oper) (Q : Exit → Act → World → Prop) (wr : Nat → Bool) : Nat → Array Bool → Act → World → Prop
 | 0, listed, a, w => Region.ready md ops listed = [] ∧ Q .normal a w
 | fuel + 1, listed, a, w =>
  (Region.ready md ops listed = [] → Q .normal a w) ∧
  ∀ i ∈ Region.ready md ops listed, wpOp P ops Q i (fun a' w' => (wr i = false → Ext [] w w') ∧ wpAnyE P md ops Q wr fuel (listed.setIfInBounds i true) a' w') a w

theorem wpAny_of_E : ∀ (fuel : Nat) (listed : Array Bool) (a : Act) (w : World), wpAnyE P md ops Q wr fuel listed a w → wpAny P md ops Q fuel listed a w
 | 0, _, _, _, h => h
 | fuel + 1, _, _, _, h => ⟨h.1, fun i hi => wpOp_mono (fun a' w' h' => wpAny_of_E fuel _ a' w' h'.2) (h.2 i hi)⟩

def depsOf (md : Region.Mode) (ops : Array Oper) (i : Nat) : Array Bool :=
 (List.range ops.size).foldl (fun D j => D.push (match ops[j]? with | some oj => oj.after.any (fun e => Region.binds md e && (e.on == i || D.getD e.on false)) | none => false)) #[]
def freeD (md : Region.Mode) (ops : Array Oper) (wr : Nat → Bool) (listed : Array Bool) (i : Nat) (D : Array Bool) : Bool :=
 match ops[i]? with
 | none => false
 | some oi => (List.range ops.size).all fun j => j == i || listed.getD j true || match ops[j]? with
   | some oj => (D.getD j false) || (oi.apart ops oj && !wr j)
   | none => true
def depsB (md : Region.Mode) (ops : Array Oper) (listed : Array Bool) (i : Nat) (D : Array Bool) : Bool :=
 (D.size == ops.size) && (List.range ops.size).all fun j => !D.getD j false || (!listed.getD j false && match ops[j]? with
   | some oj => oj.after.any fun e => Region.binds md e && (e.on == i || D.getD e.on false)
   | none => false)
def freeE (md : Region.Mode) (ops : Array Oper) (wr : Nat → Bool) (listed : Array Bool) (i : Nat) : Bool :=
 (match ops[i]? with
 | none => false
 | some oi => (List.range ops.size).all fun j => j == i || listed.getD j true || match ops[j]? with
   | some oj => oj.after.any (fun e => Region.binds md e && e.on == i) || (oi.apart ops oj && !wr j)
   | none => true) || (depsB md ops listed i (depsOf md ops i) && freeD md ops wr listed i (depsOf md ops i))
theorem freeE_spec {i : Nat} {oi : Oper} {listed : Array Bool} (hi : ops[i]? = some oi) (h : freeE md ops wr listed i = true) :
  ∃ D : Nat → Bool, (∀ (j : Nat) oj, ops[j]? = some oj → D j = true → ∃ e ∈ oj.after, Region.binds md e = true ∧ (e.on = i ∨ D e.on = true)) ∧ (∀ j, D j = true → listed.getD j false = false) ∧
   ∀ (j : Nat) oj, ops[j]? = some oj → j ≠ i → listed.getD j true = false → D j = false → oi.apart ops oj = true ∧ wr j = false := by
 unfold freeE at h
 rw [hi] at h
 rcases Bool.or_eq_true_iff.1 h with h | h
 ·
  refine ⟨fun j => !listed.getD j false && match ops[j]? with | some oj => oj.after.any (fun e => Region.binds md e && e.on == i) | none => false, ?_, ?_, ?_⟩
  ·
   intro j oj hj hD
   simp only [hj, Bool.and_eq_true] at hD
   obtain ⟨e, he, hb⟩ := Array.any_eq_true'.1 hD.2
   simp only [Bool.and_eq_true, beq_iff_eq] at hb
   exact ⟨e, he, hb.1, .inl hb.2⟩
  ·
   intro j hD
   simp only [Bool.and_eq_true, Bool.not_eq_true'] at hD
   exact hD.1
  ·
   intro j oj hj hne hun hD
   have hjs : j < ops.size := (Array.getElem?_eq_some_iff.1 hj).1
   have h1 := List.all_eq_true.1 h j (List.mem_range.2 hjs)
   rw [hj] at h1
   simp only [Bool.or_eq_true, beq_iff_eq, Bool.and_eq_true, Bool.not_eq_true', hun] at h1
   rcases h1 with (h1 | h1) | h1 | h1
   ·
    exact absurd h1 hne
   ·
    cases h1
   ·
    simp only [hj, getD_both hun, Bool.not_false, Bool.true_and] at hD
    rw [hD] at h1
    cases h1
   ·
    exact h1
 ·
  simp only [Bool.and_eq_true] at h
  obtain ⟨h, h'⟩ := h
  generalize depsOf md ops i = D at h h'
  unfold depsB at h
  simp only [Bool.and_eq_true, beq_iff_eq] at h
  have hin : ∀ j, D.getD j false = true → j < ops.size := fun j hj => by
   rcases Nat.lt_or_ge j ops.size with h1 | h1
   ·
    exact h1
   ·
    rw [← h.1] at h1; simp [Array.getElem?_eq_none h1] at hj
  refine ⟨fun j => D.getD j false, ?_, ?_, ?_⟩
  ·
   intro j oj hj hD
   have h1 := List.all_eq_true.1 h.2 j (List.mem_range.2 (hin j hD))
   simp only [hD, hj, Bool.not_true, Bool.false_or, Bool.and_eq_true] at h1
   obtain ⟨e, he, hb⟩ := Array.any_eq_true'.1 h1.2
   simp only [Bool.and_eq_true, Bool.or_eq_true, beq_iff_eq] at hb
   exact ⟨e, he, hb⟩
  ·
   intro j hD
   have h1 := List.all_eq_true.1 h.2 j (List.mem_range.2 (hin j hD))
   simp only [hD, Bool.not_true, Bool.false_or, Bool.and_eq_true, Bool.not_eq_true'] at h1
   exact h1.1
  ·
   intro j oj hj hne hun hD
   unfold freeD at h'
   rw [hi] at h'
   have hjs : j < ops.size := (Array.getElem?_eq_some_iff.1 hj).1
   have h1 := List.all_eq_true.1 h' j (List.mem_range.2 hjs)
   rw [hj] at h1
   simp only [Bool.or_eq_true, beq_iff_eq, Bool.and_eq_true, Bool.not_eq_true', hun] at h1
   rcases h1 with (h1 | h1) | h1 | h1
   ·
    exact absurd h1 hne
   ·
    cases h1
   ·
    have hD' : D.getD j false = false := hD
    rw [hD'] at h1; cases h1
   ·
    exact h1

theorem wpAnyE_first {i : Nat} {oi : Oper} {v : Value} {D : Nat → Bool} (hi : ops[i]? = some oi) (hsel : ∀ (j : Nat) (o : Oper) cs b, ops[j]? = some o → o.op ≠ .select cs b)
  (hQ : ∀ c a w, Q (.panic c) (a.put oi.dst v) w → Q (.panic c) a w)
  (hD1 : ∀ (j : Nat) oj, ops[j]? = some oj → D j = true → ∃ e ∈ oj.after, Region.binds md e = true ∧ (e.on = i ∨ D e.on = true)) :
  ∀ (fuel : Nat) (listed : Array Bool) (a : Act) (w : World), (∀ j, D j = true → listed.getD j false = false) →
   (∀ (j : Nat) oj, ops[j]? = some oj → j ≠ i → listed.getD j true = false → D j = false → oi.apart ops oj = true ∧ wr j = false) →
   i ∈ Region.ready md ops listed → YieldsIf P ops (Ext [] w) oi v a →
   wpAnyE P md ops Q wr fuel (listed.setIfInBounds i true) (a.put oi.dst v) w → wpAnyE P md ops Q wr (fuel + 1) listed a w := by
 intro fuel
 induction fuel with
 | zero =>
  intro listed a w _ _ hr hy H
  refine ⟨fun h => (by rw [h] at hr; cases hr), fun j hj => ?_⟩
  by_cases hji : j = i
  ·
   subst hji; exact hy.wpOp hi (Ext.refl _ _) ⟨fun _ => Ext.refl _ _, H⟩
  ·
   have := ready_mono hj hji
   rw [H.1] at this
   cases this
 | succ fuel ih =>
  intro listed a w hD2 hfree hr hy H
  refine ⟨fun h => (by rw [h] at hr; cases hr), fun j hj => ?_⟩
  by_cases hji : j = i
  ·
   subst hji; exact hy.wpOp hi (Ext.refl _ _) ⟨fun _ => Ext.refl _ _, H⟩
  ·
   have h1 := H.2 j (ready_mono hj hji)
   obtain ⟨hjun, oj, hoj, hall⟩ := mem_ready.1 hj
   have hDj : D j = false := by
    cases hd : D j with
    | false => rfl
    | true =>
     obtain ⟨e, he, hb, hor⟩ := hD1 j oj hoj hd
     have h2 := hall e he hb
     rcases hor with hor | hor
     ·
      rw [hor, getD_both (mem_ready.1 hr).1] at h2; cases h2
     ·
      rw [hD2 _ hor] at h2; cases h2
   obtain ⟨hap, hwr⟩ := hfree j oj hoj hji hjun hDj
   have h2 := wpOp_putIf hoj hap (fun cs b => hsel i oi cs b hi) (fun cs b => hsel j oj cs b hoj) hQ hy h1
   have hfree' : ∀ (k : Nat) ok, ops[k]? = some ok → k ≠ i → (listed.setIfInBounds j true).getD k true = false → D k = false → oi.apart ops ok = true ∧ wr k = false := fun k ok hk hki hun hno => by
    refine hfree k ok hk hki ?_ hno
    by_cases hjk : j = k
    ·
     subst hjk; exact hjun
    ·
     rw [getD_set_ne true hjk] at hun; exact hun
   have hD2' : ∀ k, D k = true → (listed.setIfInBounds j true).getD k false = false := fun k hk => by
    rw [getD_set_ne false (fun e => by subst e; rw [hDj] at hk; cases hk)]
    exact hD2 k hk
   refine wpOp_mono (fun a' w' h3 => ?_) h2
   obtain ⟨h4, h5, h6⟩ := h3
   have he := h5 hwr
   refine ⟨fun _ => he, ih (listed.setIfInBounds j true) a' w' hD2' hfree' (ready_mono hr (Ne.symm hji)) ?_ ?_⟩
   ·
    exact h4.imp (fun ⟨x, y⟩ => ⟨x, fun u hu => y u (he.trans' hu)⟩) id
   ·
    rw [Array.setIfInBounds_comm _ _ hji]
    exact h6

theorem wpAnyE_one {i : Nat} {fuel : Nat} {listed : Array Bool} {a : Act} {w : World} (hr : Region.ready md ops listed = [i])
  (h : wpOp P ops Q i (fun a' w' => (wr i = false → Ext [] w w') ∧ wpAnyE P md ops Q wr fuel (listed.setIfInBounds i true) a' w') a w) : wpAnyE P md ops Q wr (fuel + 1) listed a w :=
 ⟨fun h0 => (by rw [hr] at h0; cases h0), fun j hj => by
  rw [hr] at hj
  obtain rfl := List.mem_singleton.1 hj
  exact h⟩
theorem wpAnyE_done {listed : Array Bool} {a : Act} {w : World} (hr : Region.ready md ops listed = []) (h : Q .normal a w) : ∀ fuel, wpAnyE P md ops Q wr fuel listed a w
 | 0 => ⟨hr, h⟩
 | _ + 1 => ⟨fun _ => h, by rw [hr]; simp⟩
end

def anyE (w : World) (F : World → Value → Prop) (k : Bool → Value → Prop) : Prop := ∃ v, (∀ w', Ext [] w w' → F w' v) ∧ k true v

def mldK (τ : Bool) (P : Program) (o : Oper) (ρ : Rg) (w : World) (k : Bool → Value → Prop) : Prop :=
 match o.op with
 | .move x | .assign x => evK ρ x fun v => k true v
 | .load t x => evK ρ x fun a => loadK P t a w fun τ v _ => k τ v
 | .pick .. | .binOp .. | .unOp .. | .convert .. | .slice .. | .fieldAddr .. | .field .. | .indexAddr .. | .index .. | .extract .. | .nilCheck .. => anyE w (fun w' v => opK τ P o ρ w' fun _ u w'' => w'' = w' ∧ u = v) k
 | .call c => (match c.callee with
  | .builtin b => evsK ρ c.args.toList fun args => ∃ v, (∀ w', Ext [] w w' → (builtin b c.argTypes o.type (c.args.map fun | .const _ => true | _ => false) args.toArray).run P w' = .ok (.value v) w') ∧ k true v
  | _ => False)
 | _ => False

theorem val_of_runK {P : Program} {o : Oper} {a : Act} {w : World} {s : Sem Value} {v : Value}
  (he : execOp a.eval o = (do pure (.value (← s)))) (h : runK P s w fun u w' => w' = w ∧ u = v) : (execOp a.eval o).run P w = .ok (.value v) w := by
 rw [he]
 unfold runK at h
 rw [Sem.run_bind]
 cases hs : s.run P w with
 | ok u w' => rw [hs] at h; obtain ⟨rfl, rfl⟩ := h; rfl
 | halt x w' => rw [hs] at h; exact h.elim

theorem val_sound {τ : Bool} {n : Nat} {P : Program} {o : Oper} {a : Act} {ρ : Rg} {w : World} {v : Value}
  (hok : Ok n a ρ) (hm : match o.op with | .pick .. | .binOp .. | .unOp .. | .convert .. | .slice .. | .fieldAddr .. | .field .. | .indexAddr .. | .index .. | .extract .. | .nilCheck .. | .build .. => True | _ => False)
  (h : opK τ P o ρ w fun _ u w' => w' = w ∧ u = v) : (execOp a.eval o).run P w = .ok (.value v) w := by
 obtain ⟨dst, op, ty, pos, after, guard⟩ := o
 cases op with
 | pick c x y =>
  have h1 := evK_sound hok h
  have h2 := evK_sound hok h1
  have h3 := evK_sound hok h2
  cases hc : a.eval c with
  | bool t => rw [hc] at h3; obtain ⟨-, rfl⟩ := h3; simp only [execOp, hc, asBool, pure_bind]; cases t <;> rfl
  | _ => rw [hc] at h3; exact h3.elim
 | binOp op t x y yt => exact val_of_runK (s := do eqGuard op t x y (a.eval x) (a.eval y); binOp op t (a.eval x) (a.eval y)) rfl (evK_sound hok (evK_sound hok h))
 | unOp op t x => exact val_of_runK (s := Op.unary op (a.eval x)) rfl (evK_sound hok h)
 | convert s d x => exact val_of_runK (s := Go.convert s d (a.eval x)) rfl (evK_sound hok h)
 | slice t x lo hi mx => exact val_of_runK (s := Instr.sliceAt t (a.eval x) (lo.map a.eval) (hi.map a.eval) (mx.map a.eval)) rfl (evoK_sound hok (evoK_sound hok (evoK_sound hok (evK_sound hok h))))
 | fieldAddr s x f => exact val_of_runK (s := Instr.fieldAt s (a.eval x) f) rfl (evK_sound hok h)
 | field s x f => exact val_of_runK (s := Instr.field s (a.eval x) f) rfl (evK_sound hok h)
 | indexAddr t x i => exact val_of_runK (s := Instr.indexAt t (a.eval x) (a.eval i)) rfl (evK_sound hok (evK_sound hok h))
 | index t x i => exact val_of_runK (s := Instr.index t (a.eval x) (a.eval i)) rfl (evK_sound hok (evK_sound hok h))
 | extract t i => exact val_of_runK (s := Instr.extract (a.eval t) i) rfl (evK_sound hok h)
 | build t ps =>
  have h1 := evpK_sound hok h
  refine val_of_runK (s := Instr.build t (ps.map fun (i, x) => (i, a.eval x))) rfl ?_
  have e : (ps.map fun (i, x) => (i, a.eval x)) = (ps.toList.map fun (i, x) => (i, a.eval x)).toArray := by
   rw [← Array.toList_map, Array.toArray_toList]
  exact e ▸ h1
 | nilCheck x =>
  have h1 := evK_sound hok h
  split at h1
  ·
   rename_i b hb; obtain ⟨-, rfl⟩ := h1; simp only [execOp, hb]; rfl
  ·
   rename_i f l c hb; obtain ⟨-, rfl⟩ := h1; simp only [execOp, hb]; rfl
  ·
   exact h1.elim
 | _ => exact hm.elim

theorem loadK_ext {P : Program} {t : TypeId} {a : Value} {w w' : World} {F : Bool → Value → Prop} (he : Ext [] w w') (h : loadK P t a w fun τ v _ => F τ v) : loadK P t a w' fun τ v _ => F τ v := by
 have hrd : ∀ (b : Nat) (n o : Nat) (cs : List Value), readC w b o n = some cs → readC w' b o n = some cs := fun b n o cs hr => by
  obtain ⟨h1, h2⟩ := readC_get n o cs hr
  subst h1
  exact readC_of cs o fun i hi => he.cellOf (h2 i hi)
 unfold loadK at *
 split at h
 ·
  rename_i x
  cases hd : P.underlying t with
  | none => rw [hd] at h; exact h.elim
  | some d =>
   rw [hd] at h
   simp only at h ⊢
   cases hg : aggD d with
   | true =>
    rw [hg] at h
    simp only [cond_true] at h ⊢
    split at h
    ·
     rename_i n hn
     unfold cellsK at *
     split at h
     ·
      split at h
      ·
       rename_i cs hcs
       rename_i hsp _
       rw [hrd _ _ _ _ hcs]
       exact h
      ·
       exact h.elim
     ·
      exact h.elim
    ·
     exact h.elim
   | false =>
    rw [hg] at h
    simp only [cond_false] at h ⊢
    unfold cellK at *
    cases hc : w.cell? x with
    | none => rw [hc] at h; exact h.elim
    | some v => rw [hc] at h; rw [he.cellOf hc]; exact h
 ·
  exact h.elim

theorem loadK_det {P : Program} {t : TypeId} {a : Value} {w : World} {F : Bool → Value → Prop} (h : loadK P t a w fun τ v _ => F τ v) : ∃ v, (loadK P t a w fun _ u _ => u = v) ∧ F true v := by
 unfold loadK at *
 split at h
 ·
  rename_i x
  cases hd : P.underlying t with
  | none => rw [hd] at h; exact h.elim
  | some d =>
   rw [hd] at h
   simp only at h ⊢
   cases hg : aggD d with
   | true =>
    rw [hg] at h
    simp only [cond_true] at h ⊢
    split at h
    ·
     rename_i n hn
     unfold cellsK at *
     split at h
     ·
      split at h
      ·
       rename_i cs hcs
       exact ⟨_, rfl, h⟩
      ·
       exact h.elim
     ·
      exact h.elim
    ·
     exact h.elim
   | false =>
    rw [hg] at h
    simp only [cond_false] at h ⊢
    unfold cellK at *
    cases hc : w.cell? x with
    | none => rw [hc] at h; exact h.elim
    | some v => rw [hc] at h; exact ⟨v, rfl, h⟩
 ·
  exact h.elim

theorem mld_sound {τ : Bool} {n : Nat} {P : Program} {o : Oper} {a : Act} {ρ : Rg} {w : World} {k : Bool → Value → Prop}
  (hok : Ok n a ρ) (h : mldK τ P o ρ w k) : ∃ v, (∀ w', Ext [] w w' → (execOp a.eval o).run P w' = .ok (.value v) w') ∧ k true v := by
 obtain ⟨dst, op, ty, pos, after, guard⟩ := o
 cases op with
 | move x => exact ⟨a.eval x, fun _ _ => rfl, evK_sound hok (K := fun v => k true v) h⟩
 | assign x => exact ⟨a.eval x, fun _ _ => rfl, evK_sound hok (K := fun v => k true v) h⟩
 | load t x =>
  have h1 := evK_sound hok h
  obtain ⟨v, h4, h3⟩ := loadK_det h1
  refine ⟨v, fun w' he => ?_, h3⟩
  obtain ⟨v', h5, h6⟩ := loadK_run (loadK_ext (F := fun _ u => u = v) he h4)
  subst h6
  refine val_of_runK (s := Instr.loadAt t (a.eval x)) rfl ?_
  unfold runK
  rw [h5]
  exact ⟨rfl, rfl⟩
 | pick | binOp | unOp | convert | slice | fieldAddr | field | indexAddr | index | extract | nilCheck =>
  obtain ⟨v, h1, h2⟩ := h
  exact ⟨v, fun w' he => val_sound hok trivial (h1 w' he), h2⟩
 | call c =>
  obtain ⟨callee, args, ats⟩ := c
  cases callee with
  | builtin b =>
   obtain ⟨v, h1, h2⟩ := evsK_sound hok (h : evsK ρ args.toList fun args' => ∃ v, (∀ w', Ext [] w w' → (builtin b ats ty (args.map fun | .const _ => true | _ => false) args'.toArray).run P w' = .ok (.value v) w') ∧ k true v)
   refine ⟨v, fun w' he => ?_, h2⟩
   have := h1 w' he
   simp only [← Array.toList_map, Array.toArray_toList] at this
   exact this
  | _ => exact (h : False).elim
 | _ => exact (h : False).elim

def nthK : List Oper → Nat → (Oper → Prop) → Prop
 | [], _, _ => False
 | o :: _, 0, F => F o
 | _ :: r, j + 1, F => nthK r j F
theorem nthK_get : ∀ {l : List Oper} {j : Nat} {F : Oper → Prop}, nthK l j F → ∃ o, l[j]? = some o ∧ F o
 | [], _, _, h => h.elim
 | o :: _, 0, _, h => ⟨o, rfl, h⟩
 | _ :: r, j + 1, F, h => by simpa using nthK_get (l := r) (j := j) (F := F) h

def runT (τ : Bool) (P : Program) (o : Oper) (ρ : Rg) (w : World) (tag : Nat) (k : Kv) : Prop :=
 match tag with
 | 0 => mldK τ P o ρ w fun τ v => k τ v w
 | 1 => opK τ P o ρ w fun τ v w' => Ext [] w w' ∧ k τ v w'
 | _ => opK τ P o ρ w k
def stepK (τ : Bool) (P : Program) (all : Array Oper) (o : Oper) (ρ : Rg) (w : World) (tag : Nat) (K : Kr) : Prop :=
 match o.guard with
 | none => runT τ P o ρ w tag fun τ v w' => K τ (put ρ o.dst v) w'
 | some (j, want) =>
  match (all[j]?).bind (·.dst) with
  | some t => lk ρ t fun g => gdK g want (fun τ => runT τ P o ρ w tag fun τ v w' => K τ (put ρ o.dst v) w') (fun τ => K τ (put ρ o.dst undef) w)
  | none => False
def hldK (τ : Bool) (P : Program) (all : Array Oper) : List (Nat × Nat) → Rg → World → Kr → Prop
 | [], ρ, w, K => K true ρ w
 | (i, t) :: r, ρ, w, K => nthK all.toList i fun o => stepK τ P all o ρ w t fun τ ρ' w' => hldK τ P all r ρ' w' K

def schedB (md : Region.Mode) (ops : Array Oper) (wr : Nat → Bool) : Array Bool → List (Nat × Nat) → Bool
 | listed, [] => (Region.ready md ops listed).isEmpty
 | listed, (i, 0) :: r => (Region.ready md ops listed).contains i && freeE md ops wr listed i && schedB md ops wr (listed.setIfInBounds i true) r
 | listed, (i, t + 1) :: r => (Region.ready md ops listed == [i]) && (t == 0 || wr i) && schedB md ops wr (listed.setIfInBounds i true) r

theorem step_cases {τ : Bool} {n : Nat} {P : Program} {all : Array Oper} {o : Oper} {a : Act} {ρ : Rg} {w : World} {tag : Nat} {K : Kr} (hok : Ok n a ρ) (h : stepK τ P all o ρ w tag K) :
  (Region.wanted o (yielded all a.tmps) = true ∧ ∃ τ, runT τ P o ρ w tag fun τ v w' => K τ (put ρ o.dst v) w') ∨ (Region.wanted o (yielded all a.tmps) = false ∧ ∃ τ, K τ (put ρ o.dst undef) w) := by
 unfold stepK at h
 cases hg : o.guard with
 | none => rw [hg] at h; exact .inl ⟨wanted_none hg _, τ, h⟩
 | some jw =>
  obtain ⟨j, want⟩ := jw
  rw [hg] at h
  simp only at h
  cases ht : (all[j]?).bind (·.dst) with
  | none => rw [ht] at h; exact h.elim
  | some t =>
   rw [ht] at h
   obtain ⟨g, hget, hgd⟩ := lk_sound' hok h
   have hy : yielded all a.tmps j = match g with | .bool b => some b | _ => none := by
    unfold yielded
    rw [ht]
    simp only [Option.bind_some, hget]
    cases g <;> rfl
   have hwant : Region.wanted o (yielded all a.tmps) = (yielded all a.tmps j == some want) := by
    simp [Region.wanted, hg]
   rw [hwant, hy]
   cases g with
   | bool b =>
    simp only [gdK] at hgd
    by_cases hb : b = want
    ·
     subst hb
     rw [if_pos rfl] at hgd
     exact .inl ⟨by simp, _, hgd⟩
    ·
     rw [if_neg hb] at hgd
     exact .inr ⟨by cases b <;> cases want <;> simp_all, _, hgd⟩
   | _ => exact .inr ⟨by simp, _, hgd⟩

def Only (n : Nat) (K : Kr) : Exit → Act → World → Prop := fun e a w => e = .normal ∧ ∃ ρ, Ok n a ρ ∧ K true ρ w



section
variable {P : Program} {n : Nat} {ρ : Rg} {w : World} {K : Kr} {k : Kv} {kk : Bool → Value → Prop}
variable {all : List Oper} {r : List Oper} {d : Option Nat} {dn : Nat} {op : Op} {ty t : TypeId} {pos : String} {af : Array Edge} {g : Option (Nat × Bool)} {x y : Operand}
@[go_sem ↓] theorem nthK_zero {o : Oper} {F : Oper → Prop} : nthK (o :: r) 0 F = F o := (rfl)
@[go_sem ↓] theorem nthK_succ {o : Oper} {j : Nat} {F : Oper → Prop} : nthK (o :: r) (j + 1) F = nthK r j F := (rfl)
def thsK (w : World) (v : Value) : Kv := fun _ u w' => w' = w ∧ u = v
end
end Go.Eng

namespace Go.Eng
set_option linter.unusedSimpArgs false
set_option linter.unusedVariables false
section
variable {P : Program} {w : World} {k : Kv} {t s e ty : TypeId} {i kd : IntKind} {a : Int}


theorem fldK_one {fs : Array Field} {f : Field} {dd : TypeDesc} {C : List Value} {o j : Nat} (ht : P.underlying t = some (.struct fs)) (hf : fs[j]? = some f) (hd : P.underlying f.type = some dd) (ha : aggD dd = false) (ho : f.offset = o) (hC : o < C.length) :
  fldK P t (.agg C.toArray) j w k = lstK C o fun τ v => k τ v w := by
 subst ho
 unfold fldK runK Instr.field lstK
 simp only [Sem.run_bind, run_underlying ht, Result.andThen_ok, hf, asAgg, pure_bind, part, run_isAgg hd, ha, Bool.false_eq_true, if_false, List.getElem?_toArray]
 rw [List.getElem?_eq_getElem hC]
 rfl
theorem fldK_agg {fs : Array Field} {f : Field} {dd : TypeDesc} {C : List Value} {o j z : Nat} (ht : P.underlying t = some (.struct fs)) (hf : fs[j]? = some f) (hd : P.underlying f.type = some dd) (ha : aggD dd = true) (ho : f.offset = o) (hz : szOf P f.type = some z) :
  fldK P t (.agg C.toArray) j w k = k true (.agg ((C.drop o).take z).toArray) w := by
 subst ho
 unfold fldK runK Instr.field
 simp only [Sem.run_bind, run_underlying ht, Result.andThen_ok, hf, asAgg, pure_bind, part, run_isAgg hd, ha, if_true, run_sizeOf hz]
 simp [Sem.run, pure, resK, List.extract_eq_take_drop]
def sblK (P : Program) (b : Builtin) (ats : Array TypeId) (ty : TypeId) (cs : Array Bool) (args : List Value) (w : World) (k : Bool → Value → Prop) : Prop :=
 runK P (builtin b ats ty cs args.toArray) w fun n w' => match n with | .value v => w' = w ∧ k true v | _ => False
def msl (P : Program) (t : TypeId) (l c : Value) (w : World) (k : Kv) : Prop := runK P (Instr.makeSlice t l c) w (k true)
end
theorem binK_slice_nil {P : Program} {t e : TypeId} {x y : Operand} {w : World} {k : Kv} {a : Option Addr} {n c : Nat} (ht : P.underlying t = some (.slice e)) : binK P .eql t x y (.slice a n c) (.slice none 0 0) w k = k true (.bool a.isNone) w := by
 have h : (Op.equal t (.slice a n c) (.slice none 0 0)).run P w = .ok a.isNone w := by
  show (Op.equalIn 10000 t (.slice a n c) (.slice none 0 0)).run P w = _
  unfold Op.equalIn
  rw [Sem.run_bind, run_underlying ht, Result.andThen_ok]
  cases a <;> rfl
 have h2 : (binOp .eql t (.slice a n c) (.slice none 0 0)).run P w = .ok (.bool a.isNone) w := by
  show (do pure (.bool (← Op.equal t (.slice a n c) (.slice none 0 0))) : Sem Value).run P w = _
  rw [Sem.run_bind, h]
  rfl
 unfold binK runK
 rw [show eqGuard .eql t x y (.slice a n c) (.slice none 0 0) = pure () from rfl, pure_bind, h2]
 rfl
theorem binK_slice_nnil {P : Program} {t e : TypeId} {x y : Operand} {w : World} {k : Kv} {a : Option Addr} {n c : Nat} (ht : P.underlying t = some (.slice e)) : binK P .neq t x y (.slice a n c) (.slice none 0 0) w k = k true (.bool (!a.isNone)) w := by
 have h : (Op.equal t (.slice a n c) (.slice none 0 0)).run P w = .ok a.isNone w := by
  show (Op.equalIn 10000 t (.slice a n c) (.slice none 0 0)).run P w = _
  unfold Op.equalIn
  rw [Sem.run_bind, run_underlying ht, Result.andThen_ok]
  cases a <;> rfl
 have h2 : (binOp .neq t (.slice a n c) (.slice none 0 0)).run P w = .ok (.bool (!a.isNone)) w := by
  show (do pure (.bool (!(← Op.equal t (.slice a n c) (.slice none 0 0)))) : Sem Value).run P w = _
  rw [Sem.run_bind, h]
  rfl
 unfold binK runK
 rw [show eqGuard .neq t x y (.slice a n c) (.slice none 0 0) = pure () from rfl, pure_bind, h2]
 rfl
theorem binK_ptr_nil {P : Program} {t e : TypeId} {x y : Operand} {w : World} {k : Kv} {a : Option Addr} (ht : P.underlying t = some (.pointer e)) : binK P .eql t x y (.pointer a) (.pointer none) w k = k true (.bool a.isNone) w := by
 have h : (Op.equal t (.pointer a) (.pointer none)).run P w = .ok a.isNone w := by
  show (Op.equalIn 10000 t (.pointer a) (.pointer none)).run P w = _
  unfold Op.equalIn
  rw [Sem.run_bind, run_underlying ht, Result.andThen_ok]
  cases a <;> rfl
 have h2 : (binOp .eql t (.pointer a) (.pointer none)).run P w = .ok (.bool a.isNone) w := by
  show (do pure (.bool (← Op.equal t (.pointer a) (.pointer none))) : Sem Value).run P w = _
  rw [Sem.run_bind, h]
  rfl
 unfold binK runK
 rw [show eqGuard .eql t x y (.pointer a) (.pointer none) = pure () from rfl, pure_bind, h2]
 rfl
theorem binK_ptr_nnil {P : Program} {t e : TypeId} {x y : Operand} {w : World} {k : Kv} {a : Option Addr} (ht : P.underlying t = some (.pointer e)) : binK P .neq t x y (.pointer a) (.pointer none) w k = k true (.bool (!a.isNone)) w := by
 have h : (Op.equal t (.pointer a) (.pointer none)).run P w = .ok a.isNone w := by
  show (Op.equalIn 10000 t (.pointer a) (.pointer none)).run P w = _
  unfold Op.equalIn
  rw [Sem.run_bind, run_underlying ht, Result.andThen_ok]
  cases a <;> rfl
 have h2 : (binOp .neq t (.pointer a) (.pointer none)).run P w = .ok (.bool (!a.isNone)) w := by
  show (do pure (.bool (!(← Op.equal t (.pointer a) (.pointer none)))) : Sem Value).run P w = _
  rw [Sem.run_bind, h]
  rfl
 unfold binK runK
 rw [show eqGuard .neq t x y (.pointer a) (.pointer none) = pure () from rfl, pure_bind, h2]
 rfl
theorem binK_bool {P : Program} {t : TypeId} {x y : Operand} {w : World} {k : Kv} {a b : Bool} (ht : P.underlying t = some .bool) : binK P .eql t x y (.bool a) (.bool b) w k = k true (.bool (a == b)) w := by
 have h : (Op.equal t (.bool a) (.bool b)).run P w = .ok (a == b) w := by
  show (Op.equalIn 10000 t (.bool a) (.bool b)).run P w = _
  unfold Op.equalIn
  rw [Sem.run_bind, run_underlying ht, Result.andThen_ok]
  rfl
 have h2 : (binOp .eql t (.bool a) (.bool b)).run P w = .ok (.bool (a == b)) w := by
  show (do pure (.bool (← Op.equal t (.bool a) (.bool b))) : Sem Value).run P w = _
  rw [Sem.run_bind, h]
  rfl
 unfold binK runK
 rw [show eqGuard .eql t x y (.bool a) (.bool b) = pure () from rfl, pure_bind, h2]
 rfl
theorem binK_nbool {P : Program} {t : TypeId} {x y : Operand} {w : World} {k : Kv} {a b : Bool} (ht : P.underlying t = some .bool) : binK P .neq t x y (.bool a) (.bool b) w k = k true (.bool (!(a == b))) w := by
 have h : (Op.equal t (.bool a) (.bool b)).run P w = .ok (a == b) w := by
  show (Op.equalIn 10000 t (.bool a) (.bool b)).run P w = _
  unfold Op.equalIn
  rw [Sem.run_bind, run_underlying ht, Result.andThen_ok]
  rfl
 have h2 : (binOp .neq t (.bool a) (.bool b)).run P w = .ok (.bool (!(a == b))) w := by
  show (do pure (.bool (!(← Op.equal t (.bool a) (.bool b)))) : Sem Value).run P w = _
  rw [Sem.run_bind, h]
  rfl
 unfold binK runK
 rw [show eqGuard .neq t x y (.bool a) (.bool b) = pure () from rfl, pure_bind, h2]
 rfl
theorem bitK_mask {k : IntKind} {j : Nat} {a : Int} (hj : j < k.bits) : bitK .and k a (2 ^ j - 1) = a % 2 ^ j := by
 have hpos : (0 : Int) < 2 ^ j := Int.pow_pos (by decide)
 have h1 : 2 ^ j < 2 ^ k.bits := Nat.pow_lt_pow_right (by decide) hj
 have hc : ((2 : Int) ^ j - 1) = ((2 ^ j - 1 : Nat) : Int) := by
  rw [Int.natCast_sub (Nat.one_le_two_pow)]; simp
 have e : ((BitVec.ofInt k.bits a &&& BitVec.ofInt k.bits (2 ^ j - 1)).toNat : Int) = a % 2 ^ j := by
  rw [BitVec.toNat_and, hc, BitVec.ofInt_natCast, BitVec.toNat_ofNat, Nat.mod_eq_of_lt (a := 2 ^ j - 1) (Nat.lt_of_le_of_lt (Nat.sub_le _ _) h1), Nat.and_two_pow_sub_one_eq_mod, BitVec.toNat_ofInt]
  have h0 : (0 : Int) ≤ a % ((2 ^ k.bits : Nat) : Int) := Int.emod_nonneg _ (by have := Nat.two_pow_pos k.bits; omega)
  rw [Int.natCast_emod, Int.toNat_of_nonneg h0]
  have : ((2 ^ j : Nat) : Int) ∣ ((2 ^ k.bits : Nat) : Int) := Int.natCast_dvd_natCast.2 (Nat.pow_dvd_pow 2 (Nat.le_of_lt hj))
  rw [Int.emod_emod_of_dvd _ this]
  simp
 show k.wrap ((BitVec.ofInt k.bits a &&& BitVec.ofInt k.bits (2 ^ j - 1)).toNat : Int) = _
 rw [e]
 have h2 : a % 2 ^ j < 2 ^ j := Int.emod_lt_of_pos _ hpos
 have h3 : 0 ≤ a % 2 ^ j := Int.emod_nonneg _ (by omega)
 have h4 : (2 : Int) ^ j ≤ 2 ^ (k.bits - 1) := by
  have : 2 ^ j ≤ 2 ^ (k.bits - 1) := Nat.pow_le_pow_right (by decide) (by omega)
  exact_mod_cast this
 have h5 : (2 : Int) ^ (k.bits - 1) ≤ 2 ^ k.bits := by
  have : 2 ^ (k.bits - 1) ≤ 2 ^ k.bits := Nat.pow_le_pow_right (by decide) (by omega)
  exact_mod_cast this
 unfold IntKind.wrap
 have h6 : a % 2 ^ j % 2 ^ k.bits = a % 2 ^ j := Int.emod_eq_of_lt h3 (by omega)
 rw [h6, if_neg]
 simp only [ge_iff_le, Bool.and_eq_true, decide_eq_true_eq, not_and]
 intro _
 omega
end Go.Eng

namespace Go.Eng
set_option linter.unusedSimpArgs false
set_option linter.unusedVariables false
section
variable {P : Program} {w : World} {k : Kv} {t tx e ty : TypeId} {cst : Array Bool}

theorem bltK_copy {b o n c m z cap : Nat} {C xs : List Value} {ax : Option Addr} (ht : P.underlying t = some (.slice e)) (hz : szOf P e = some z) (hB : Blk w b C) (hx : Row w ax xs) (hxl : xs.length = m * z) (ho : ∀ v ∈ xs, oneC v = true)
  (hle : m ≤ n) (hr : o + m * z ≤ C.length) :
  bltK P .copy #[t, tx] ty cst [.slice (some ⟨b, o, none⟩) n c, .slice ax m cap] w k = k true (.int .i64 m) (if xs = [] then w else setB w b (setL C o xs)) := by
 have hmz : ax = none → m * z = 0 := fun h => by
  subst h
  rcases Nat.eq_zero_or_pos xs.length with h0 | h0
  ·
   omega
  ·
   have := hx.1 h0; cases this
 have hrun : (Builtin.copy_ #[t, tx] ty #[.slice (some ⟨b, o, none⟩) n c, .slice ax m cap]).run P w = .ok (.int .i64 m) (if xs = [] then w else setB w b (setL C o xs)) := by
  unfold Builtin.copy_
  have hmin : Nat.min m n = m := Nat.min_eq_left hle
  simp only [List.getElem?_toArray, List.getElem?_cons_zero, List.getElem?_cons_succ, Sem.run_bind, run_underlying ht, Result.andThen_ok, run_sizeOf hz, Builtin.lenOf, pure_bind, hmin]
  rw [run_firstCells hx hxl hmz]
  simp only [Result.andThen_ok, Sem.run_bind]
  have h2 := run_storeCells (P := P) xs w b o 0 C ho hB (by omega)
  rw [Nat.add_zero] at h2
  rw [h2]
  rfl
 unfold bltK nextK runK builtin
 simp only [Sem.run_bind, hrun, Result.andThen_ok]
 rfl
end
end Go.Eng
