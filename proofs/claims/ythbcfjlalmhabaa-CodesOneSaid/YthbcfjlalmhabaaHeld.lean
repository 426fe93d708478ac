import Derived.Test.YthbcfjlalmhabaaDraw
import Derived.OrdersHeld
/-! Regions that draw their order and hold calls or make memory: what only reads comes up first, whatever comes up then only adds to the heap till the last reading has come up. -/
namespace Go.Eng
set_option linter.unusedSimpArgs false
set_option linter.unusedVariables false

theorem Ext.cellOf {w w' : World} (h : Ext [] w w') {x : Addr} {v : Value} (hc : w.cell? x = some v) : w'.cell? x = some v := by
  have hl := World.block_lt_of_cell? _ _ hc
  unfold World.cell? at *
  rw [h.block _ hl (by simp)]
  exact hc

section
variable {P : Program} {ops : Array Oper} {Q : Exit → Act → World → Prop} {md : Region.Mode} {wr : Nat → Bool}

/-- Whatever order is picked from here on; behind what may not write, the heap has only grown. -/
def wpAnyE (P : Program) (md : Region.Mode) (ops : Array Oper) (Q : Exit → Act → World → Prop) (wr : Nat → Bool) : Nat → Array Bool → Act → World → Prop
  | 0, listed, a, w => Region.ready md ops listed = [] ∧ Q .normal a w
  | fuel + 1, listed, a, w =>
    (Region.ready md ops listed = [] → Q .normal a w) ∧
    ∀ i ∈ Region.ready md ops listed, wpOp P ops Q i (fun a' w' => (wr i = false → Ext [] w w') ∧ wpAnyE P md ops Q wr fuel (listed.setIfInBounds i true) a' w') a w

theorem wpAny_of_E : ∀ (fuel : Nat) (listed : Array Bool) (a : Act) (w : World), wpAnyE P md ops Q wr fuel listed a w → wpAny P md ops Q fuel listed a w
  | 0, _, _, _, h => h
  | fuel + 1, _, _, _, h => ⟨h.1, fun i hi => wpOp_mono (fun a' w' h' => wpAny_of_E fuel _ a' w' h'.2) (h.2 i hi)⟩

/-- Who waits for number i, through whomever. -/
def depsOf (md : Region.Mode) (ops : Array Oper) (i : Nat) : Array Bool :=
  (List.range ops.size).foldl (fun D j => D.push (match ops[j]? with | some oj => oj.after.any (fun e => Region.binds md e && (e.on == i || D.getD e.on false)) | none => false)) #[]
def freeD (md : Region.Mode) (ops : Array Oper) (wr : Nat → Bool) (listed : Array Bool) (i : Nat) (D : Array Bool) : Bool :=
  match ops[i]? with
  | none => false
  | some oi => (List.range ops.size).all fun j => j == i || listed.getD j true || match ops[j]? with
      | some oj => (D.getD j false) || (oi.apart ops oj && !wr j)
      | none => true
def depsB (md : Region.Mode) (ops : Array Oper) (listed : Array Bool) (i : Nat) (D : Array Bool) : Bool :=
  (D.size == ops.size) && (List.range ops.size).all fun j => !D.getD j false || (!listed.getD j false && match ops[j]? with
      | some oj => oj.after.any fun e => Region.binds md e && (e.on == i || D.getD e.on false)
      | none => false)
def freeE (md : Region.Mode) (ops : Array Oper) (wr : Nat → Bool) (listed : Array Bool) (i : Nat) : Bool :=
  (match ops[i]? with
  | none => false
  | some oi => (List.range ops.size).all fun j => j == i || listed.getD j true || match ops[j]? with
      | some oj => oj.after.any (fun e => Region.binds md e && e.on == i) || (oi.apart ops oj && !wr j)
      | none => true) || (depsB md ops listed i (depsOf md ops i) && freeD md ops wr listed i (depsOf md ops i))
theorem freeE_spec {i : Nat} {oi : Oper} {listed : Array Bool} (hi : ops[i]? = some oi) (h : freeE md ops wr listed i = true) :
    ∃ D : Nat → Bool, (∀ (j : Nat) oj, ops[j]? = some oj → D j = true → ∃ e ∈ oj.after, Region.binds md e = true ∧ (e.on = i ∨ D e.on = true)) ∧ (∀ j, D j = true → listed.getD j false = false) ∧
      ∀ (j : Nat) oj, ops[j]? = some oj → j ≠ i → listed.getD j true = false → D j = false → oi.apart ops oj = true ∧ wr j = false := by
  unfold freeE at h
  rw [hi] at h
  rcases Bool.or_eq_true_iff.1 h with h | h
  · refine ⟨fun j => !listed.getD j false && match ops[j]? with | some oj => oj.after.any (fun e => Region.binds md e && e.on == i) | none => false, ?_, ?_, ?_⟩
    · intro j oj hj hD
      simp only [hj, Bool.and_eq_true] at hD
      obtain ⟨e, he, hb⟩ := Array.any_eq_true'.1 hD.2
      simp only [Bool.and_eq_true, beq_iff_eq] at hb
      exact ⟨e, he, hb.1, .inl hb.2⟩
    · intro j hD
      simp only [Bool.and_eq_true, Bool.not_eq_true'] at hD
      exact hD.1
    · intro j oj hj hne hun hD
      have hjs : j < ops.size := (Array.getElem?_eq_some_iff.1 hj).1
      have h1 := List.all_eq_true.1 h j (List.mem_range.2 hjs)
      rw [hj] at h1
      simp only [Bool.or_eq_true, beq_iff_eq, Bool.and_eq_true, Bool.not_eq_true', hun] at h1
      rcases h1 with (h1 | h1) | h1 | h1
      · exact absurd h1 hne
      · cases h1
      · simp only [hj, getD_both hun, Bool.not_false, Bool.true_and] at hD
        rw [hD] at h1
        cases h1
      · exact h1
  · simp only [Bool.and_eq_true] at h
    obtain ⟨h, h'⟩ := h
    generalize depsOf md ops i = D at h h'
    unfold depsB at h
    simp only [Bool.and_eq_true, beq_iff_eq] at h
    have hin : ∀ j, D.getD j false = true → j < ops.size := fun j hj => by
      rcases Nat.lt_or_ge j ops.size with h1 | h1
      · exact h1
      · rw [← h.1] at h1; simp [Array.getElem?_eq_none h1] at hj
    refine ⟨fun j => D.getD j false, ?_, ?_, ?_⟩
    · intro j oj hj hD
      have h1 := List.all_eq_true.1 h.2 j (List.mem_range.2 (hin j hD))
      simp only [hD, hj, Bool.not_true, Bool.false_or, Bool.and_eq_true] at h1
      obtain ⟨e, he, hb⟩ := Array.any_eq_true'.1 h1.2
      simp only [Bool.and_eq_true, Bool.or_eq_true, beq_iff_eq] at hb
      exact ⟨e, he, hb⟩
    · intro j hD
      have h1 := List.all_eq_true.1 h.2 j (List.mem_range.2 (hin j hD))
      simp only [hD, Bool.not_true, Bool.false_or, Bool.and_eq_true, Bool.not_eq_true'] at h1
      exact h1.1
    · intro j oj hj hne hun hD
      unfold freeD at h'
      rw [hi] at h'
      have hjs : j < ops.size := (Array.getElem?_eq_some_iff.1 hj).1
      have h1 := List.all_eq_true.1 h' j (List.mem_range.2 hjs)
      rw [hj] at h1
      simp only [Bool.or_eq_true, beq_iff_eq, Bool.and_eq_true, Bool.not_eq_true', hun] at h1
      rcases h1 with (h1 | h1) | h1 | h1
      · exact absurd h1 hne
      · cases h1
      · have hD' : D.getD j false = false := hD
        rw [hD'] at h1; cases h1
      · exact h1

theorem wpAnyE_first {i : Nat} {oi : Oper} {v : Value} {D : Nat → Bool} (hi : ops[i]? = some oi) (hsel : ∀ (j : Nat) (o : Oper) cs b, ops[j]? = some o → o.op ≠ .select cs b)
    (hQ : ∀ c a w, Q (.panic c) (a.put oi.dst v) w → Q (.panic c) a w)
    (hD1 : ∀ (j : Nat) oj, ops[j]? = some oj → D j = true → ∃ e ∈ oj.after, Region.binds md e = true ∧ (e.on = i ∨ D e.on = true)) :
    ∀ (fuel : Nat) (listed : Array Bool) (a : Act) (w : World), (∀ j, D j = true → listed.getD j false = false) →
      (∀ (j : Nat) oj, ops[j]? = some oj → j ≠ i → listed.getD j true = false → D j = false → oi.apart ops oj = true ∧ wr j = false) →
      i ∈ Region.ready md ops listed → YieldsIf P ops (Ext [] w) oi v a →
      wpAnyE P md ops Q wr fuel (listed.setIfInBounds i true) (a.put oi.dst v) w → wpAnyE P md ops Q wr (fuel + 1) listed a w := by
  intro fuel
  induction fuel with
  | zero =>
    intro listed a w _ _ hr hy H
    refine ⟨fun h => (by rw [h] at hr; cases hr), fun j hj => ?_⟩
    by_cases hji : j = i
    · subst hji; exact hy.wpOp hi (Ext.refl _ _) ⟨fun _ => Ext.refl _ _, H⟩
    · have := ready_mono hj hji
      rw [H.1] at this
      cases this
  | succ fuel ih =>
    intro listed a w hD2 hfree hr hy H
    refine ⟨fun h => (by rw [h] at hr; cases hr), fun j hj => ?_⟩
    by_cases hji : j = i
    · subst hji; exact hy.wpOp hi (Ext.refl _ _) ⟨fun _ => Ext.refl _ _, H⟩
    · have h1 := H.2 j (ready_mono hj hji)
      obtain ⟨hjun, oj, hoj, hall⟩ := mem_ready.1 hj
      have hDj : D j = false := by
        cases hd : D j with
        | false => rfl
        | true =>
          obtain ⟨e, he, hb, hor⟩ := hD1 j oj hoj hd
          have h2 := hall e he hb
          rcases hor with hor | hor
          · rw [hor, getD_both (mem_ready.1 hr).1] at h2; cases h2
          · rw [hD2 _ hor] at h2; cases h2
      obtain ⟨hap, hwr⟩ := hfree j oj hoj hji hjun hDj
      have h2 := wpOp_putIf hoj hap (fun cs b => hsel i oi cs b hi) (fun cs b => hsel j oj cs b hoj) hQ hy h1
      have hfree' : ∀ (k : Nat) ok, ops[k]? = some ok → k ≠ i → (listed.setIfInBounds j true).getD k true = false → D k = false → oi.apart ops ok = true ∧ wr k = false := fun k ok hk hki hun hno => by
        refine hfree k ok hk hki ?_ hno
        by_cases hjk : j = k
        · subst hjk; exact hjun
        · rw [getD_set_ne true hjk] at hun; exact hun
      have hD2' : ∀ k, D k = true → (listed.setIfInBounds j true).getD k false = false := fun k hk => by
        rw [getD_set_ne false (fun e => by subst e; rw [hDj] at hk; cases hk)]
        exact hD2 k hk
      refine wpOp_mono (fun a' w' h3 => ?_) h2
      obtain ⟨h4, h5, h6⟩ := h3
      have he := h5 hwr
      refine ⟨fun _ => he, ih (listed.setIfInBounds j true) a' w' hD2' hfree' (ready_mono hr (Ne.symm hji)) ?_ ?_⟩
      · exact h4.imp (fun ⟨x, y⟩ => ⟨x, fun u hu => y u (he.trans' hu)⟩) id
      · rw [Array.setIfInBounds_comm _ _ hji]
        exact h6

theorem wpAnyE_one {i : Nat} {fuel : Nat} {listed : Array Bool} {a : Act} {w : World} (hr : Region.ready md ops listed = [i])
    (h : wpOp P ops Q i (fun a' w' => (wr i = false → Ext [] w w') ∧ wpAnyE P md ops Q wr fuel (listed.setIfInBounds i true) a' w') a w) : wpAnyE P md ops Q wr (fuel + 1) listed a w :=
  ⟨fun h0 => (by rw [hr] at h0; cases h0), fun j hj => by
    rw [hr] at hj
    obtain rfl := List.mem_singleton.1 hj
    exact h⟩
theorem wpAnyE_done {listed : Array Bool} {a : Act} {w : World} (hr : Region.ready md ops listed = []) (h : Q .normal a w) : ∀ fuel, wpAnyE P md ops Q wr fuel listed a w
  | 0 => ⟨hr, h⟩
  | _ + 1 => ⟨fun _ => h, by rw [hr]; simp⟩
end

/-! ### The reading of such a region -/
/-- A value that is the same in every heap that is to come. -/
def anyE (w : World) (F : World → Value → Prop) (k : Bool → Value → Prop) : Prop := ∃ v, (∀ w', Ext [] w w' → F w' v) ∧ k true v
@[go_sem] theorem anyE_eq {w : World} {e : Value} {k : Bool → Value → Prop} : anyE w (fun _ v => e = v) k = k true e := by
  unfold anyE
  apply propext
  constructor
  · rintro ⟨v, h1, h2⟩
    rw [h1 w (Ext.refl _ _)]
    exact h2
  · intro h
    exact ⟨e, fun _ _ => rfl, h⟩

def mldK (τ : Bool) (P : Program) (o : Oper) (ρ : Rg) (w : World) (k : Bool → Value → Prop) : Prop :=
  match o.op with
  | .move x | .assign x => evK ρ x fun v => k true v
  | .load t x => evK ρ x fun a => loadK P t a w fun τ v _ => k τ v
  | .pick .. | .binOp .. | .unOp .. | .convert .. | .slice .. | .fieldAddr .. | .field .. | .indexAddr .. | .index .. | .extract .. | .nilCheck .. => anyE w (fun w' v => opK τ P o ρ w' fun _ u w'' => w'' = w' ∧ u = v) k
  | _ => False

theorem val_of_runK {P : Program} {o : Oper} {a : Act} {w : World} {s : Sem Value} {v : Value}
    (he : execOp a.eval o = (do pure (.value (← s)))) (h : runK P s w fun u w' => w' = w ∧ u = v) : (execOp a.eval o).run P w = .ok (.value v) w := by
  rw [he]
  unfold runK at h
  rw [Sem.run_bind]
  cases hs : s.run P w with
  | ok u w' => rw [hs] at h; obtain ⟨rfl, rfl⟩ := h; rfl
  | halt x w' => rw [hs] at h; exact h.elim

theorem val_sound {τ : Bool} {n : Nat} {P : Program} {o : Oper} {a : Act} {ρ : Rg} {w : World} {v : Value}
    (hok : Ok n a ρ) (hm : match o.op with | .pick .. | .binOp .. | .unOp .. | .convert .. | .slice .. | .fieldAddr .. | .field .. | .indexAddr .. | .index .. | .extract .. | .nilCheck .. => True | _ => False)
    (h : opK τ P o ρ w fun _ u w' => w' = w ∧ u = v) : (execOp a.eval o).run P w = .ok (.value v) w := by
  obtain ⟨dst, op, ty, pos, after, guard⟩ := o
  cases op with
  | pick c x y =>
    have h1 := evK_sound hok h
    have h2 := evK_sound hok h1
    have h3 := evK_sound hok h2
    cases hc : a.eval c with
    | bool t => rw [hc] at h3; obtain ⟨-, rfl⟩ := h3; simp only [execOp, hc, asBool, pure_bind]; cases t <;> rfl
    | _ => rw [hc] at h3; exact h3.elim
  | binOp op t x y yt => exact val_of_runK (s := do eqGuard op t x y (a.eval x) (a.eval y); binOp op t (a.eval x) (a.eval y)) rfl (evK_sound hok (evK_sound hok h))
  | unOp op t x => exact val_of_runK (s := Op.unary op (a.eval x)) rfl (evK_sound hok h)
  | convert s d x => exact val_of_runK (s := Go.convert s d (a.eval x)) rfl (evK_sound hok h)
  | slice t x lo hi mx => exact val_of_runK (s := Instr.sliceAt t (a.eval x) (lo.map a.eval) (hi.map a.eval) (mx.map a.eval)) rfl (evoK_sound hok (evoK_sound hok (evoK_sound hok (evK_sound hok h))))
  | fieldAddr s x f => exact val_of_runK (s := Instr.fieldAt s (a.eval x) f) rfl (evK_sound hok h)
  | field s x f => exact val_of_runK (s := Instr.field s (a.eval x) f) rfl (evK_sound hok h)
  | indexAddr t x i => exact val_of_runK (s := Instr.indexAt t (a.eval x) (a.eval i)) rfl (evK_sound hok (evK_sound hok h))
  | index t x i => exact val_of_runK (s := Instr.index t (a.eval x) (a.eval i)) rfl (evK_sound hok (evK_sound hok h))
  | extract t i => exact val_of_runK (s := Instr.extract (a.eval t) i) rfl (evK_sound hok h)
  | nilCheck x =>
    have h1 := evK_sound hok h
    split at h1
    · rename_i b hb; obtain ⟨-, rfl⟩ := h1; simp only [execOp, hb]; rfl
    · rename_i f l c hb; obtain ⟨-, rfl⟩ := h1; simp only [execOp, hb]; rfl
    · exact h1.elim
  | _ => exact hm.elim

theorem loadK_ext {P : Program} {t : TypeId} {a : Value} {w w' : World} {F : Bool → Value → Prop} (he : Ext [] w w') (h : loadK P t a w fun τ v _ => F τ v) : loadK P t a w' fun τ v _ => F τ v := by
  have hrd : ∀ (b : Nat) (n o : Nat) (cs : List Value), readC w b o n = some cs → readC w' b o n = some cs := fun b n o cs hr => by
    obtain ⟨h1, h2⟩ := readC_get n o cs hr
    subst h1
    exact readC_of cs o fun i hi => he.cellOf (h2 i hi)
  unfold loadK at *
  split at h
  · rename_i x
    cases hd : P.underlying t with
    | none => rw [hd] at h; exact h.elim
    | some d =>
      rw [hd] at h
      simp only at h ⊢
      cases hg : aggD d with
      | true =>
        rw [hg] at h
        simp only [cond_true] at h ⊢
        split at h
        · rename_i n hn
          unfold cellsK at *
          split at h
          · split at h
            · rename_i cs hcs
              rename_i hsp _
              rw [hrd _ _ _ _ hcs]
              exact h
            · exact h.elim
          · exact h.elim
        · exact h.elim
      | false =>
        rw [hg] at h
        simp only [cond_false] at h ⊢
        unfold cellK at *
        cases hc : w.cell? x with
        | none => rw [hc] at h; exact h.elim
        | some v => rw [hc] at h; rw [he.cellOf hc]; exact h
  · exact h.elim

theorem loadK_det {P : Program} {t : TypeId} {a : Value} {w : World} {F : Bool → Value → Prop} (h : loadK P t a w fun τ v _ => F τ v) : ∃ v, (loadK P t a w fun _ u _ => u = v) ∧ F true v := by
  unfold loadK at *
  split at h
  · rename_i x
    cases hd : P.underlying t with
    | none => rw [hd] at h; exact h.elim
    | some d =>
      rw [hd] at h
      simp only at h ⊢
      cases hg : aggD d with
      | true =>
        rw [hg] at h
        simp only [cond_true] at h ⊢
        split at h
        · rename_i n hn
          unfold cellsK at *
          split at h
          · split at h
            · rename_i cs hcs
              exact ⟨_, rfl, h⟩
            · exact h.elim
          · exact h.elim
        · exact h.elim
      | false =>
        rw [hg] at h
        simp only [cond_false] at h ⊢
        unfold cellK at *
        cases hc : w.cell? x with
        | none => rw [hc] at h; exact h.elim
        | some v => rw [hc] at h; exact ⟨v, rfl, h⟩
  · exact h.elim

theorem mld_sound {τ : Bool} {n : Nat} {P : Program} {o : Oper} {a : Act} {ρ : Rg} {w : World} {k : Bool → Value → Prop}
    (hok : Ok n a ρ) (h : mldK τ P o ρ w k) : ∃ v, (∀ w', Ext [] w w' → (execOp a.eval o).run P w' = .ok (.value v) w') ∧ k true v := by
  obtain ⟨dst, op, ty, pos, after, guard⟩ := o
  cases op with
  | move x => exact ⟨a.eval x, fun _ _ => rfl, evK_sound hok (K := fun v => k true v) h⟩
  | assign x => exact ⟨a.eval x, fun _ _ => rfl, evK_sound hok (K := fun v => k true v) h⟩
  | load t x =>
    have h1 := evK_sound hok h
    obtain ⟨v, h4, h3⟩ := loadK_det h1
    refine ⟨v, fun w' he => ?_, h3⟩
    obtain ⟨v', h5, h6⟩ := loadK_run (loadK_ext (F := fun _ u => u = v) he h4)
    subst h6
    refine val_of_runK (s := Instr.loadAt t (a.eval x)) rfl ?_
    unfold runK
    rw [h5]
    exact ⟨rfl, rfl⟩
  | pick | binOp | unOp | convert | slice | fieldAddr | field | indexAddr | index | extract | nilCheck =>
    obtain ⟨v, h1, h2⟩ := h
    exact ⟨v, fun w' he => val_sound hok trivial (h1 w' he), h2⟩
  | _ => exact (h : False).elim

def nthK : List Oper → Nat → (Oper → Prop) → Prop
  | [], _, _ => False
  | o :: _, 0, F => F o
  | _ :: r, j + 1, F => nthK r j F
theorem nthK_get : ∀ {l : List Oper} {j : Nat} {F : Oper → Prop}, nthK l j F → ∃ o, l[j]? = some o ∧ F o
  | [], _, _, h => h.elim
  | o :: _, 0, _, h => ⟨o, rfl, h⟩
  | _ :: r, j + 1, F, h => by simpa using nthK_get (l := r) (j := j) (F := F) h

/-- One operation that comes up: 0, it only reads; 1, it only adds to the heap; else, whatever. -/
def runT (τ : Bool) (P : Program) (o : Oper) (ρ : Rg) (w : World) (tag : Nat) (k : Kv) : Prop :=
  match tag with
  | 0 => mldK τ P o ρ w fun τ v => k τ v w
  | 1 => opK τ P o ρ w fun τ v w' => Ext [] w w' ∧ k τ v w'
  | _ => opK τ P o ρ w k
def stepK (τ : Bool) (P : Program) (all : Array Oper) (o : Oper) (ρ : Rg) (w : World) (tag : Nat) (K : Kr) : Prop :=
  match o.guard with
  | none => runT τ P o ρ w tag fun τ v w' => K τ (put ρ o.dst v) w'
  | some (j, want) =>
    match (all[j]?).bind (·.dst) with
    | some t => lk ρ t fun g => gdK g want (fun τ => runT τ P o ρ w tag fun τ v w' => K τ (put ρ o.dst v) w') (fun τ => K τ (put ρ o.dst undef) w)
    | none => False
def hldK (τ : Bool) (P : Program) (all : Array Oper) : List (Nat × Nat) → Rg → World → Kr → Prop
  | [], ρ, w, K => K true ρ w
  | (i, t) :: r, ρ, w, K => nthK all.toList i fun o => stepK τ P all o ρ w t fun τ ρ' w' => hldK τ P all r ρ' w' K

def schedB (md : Region.Mode) (ops : Array Oper) (wr : Nat → Bool) : Array Bool → List (Nat × Nat) → Bool
  | listed, [] => (Region.ready md ops listed).isEmpty
  | listed, (i, 0) :: r => (Region.ready md ops listed).contains i && freeE md ops wr listed i && schedB md ops wr (listed.setIfInBounds i true) r
  | listed, (i, t + 1) :: r => (Region.ready md ops listed == [i]) && (t == 0 || wr i) && schedB md ops wr (listed.setIfInBounds i true) r

/-- What the guard says: the operation runs, or leaves nothing. -/
theorem step_cases {τ : Bool} {n : Nat} {P : Program} {all : Array Oper} {o : Oper} {a : Act} {ρ : Rg} {w : World} {tag : Nat} {K : Kr} (hok : Ok n a ρ) (h : stepK τ P all o ρ w tag K) :
    (Region.wanted o (yielded all a.tmps) = true ∧ ∃ τ, runT τ P o ρ w tag fun τ v w' => K τ (put ρ o.dst v) w') ∨ (Region.wanted o (yielded all a.tmps) = false ∧ ∃ τ, K τ (put ρ o.dst undef) w) := by
  unfold stepK at h
  cases hg : o.guard with
  | none => rw [hg] at h; exact .inl ⟨wanted_none hg _, τ, h⟩
  | some jw =>
    obtain ⟨j, want⟩ := jw
    rw [hg] at h
    simp only at h
    cases ht : (all[j]?).bind (·.dst) with
    | none => rw [ht] at h; exact h.elim
    | some t =>
      rw [ht] at h
      obtain ⟨g, hget, hgd⟩ := lk_sound' hok h
      have hy : yielded all a.tmps j = match g with | .bool b => some b | _ => none := by
        unfold yielded
        rw [ht]
        simp only [Option.bind_some, hget]
        cases g <;> rfl
      have hwant : Region.wanted o (yielded all a.tmps) = (yielded all a.tmps j == some want) := by
        simp [Region.wanted, hg]
      rw [hwant, hy]
      cases g with
      | bool b =>
        simp only [gdK] at hgd
        by_cases hb : b = want
        · subst hb
          rw [if_pos rfl] at hgd
          exact .inl ⟨by simp, _, hgd⟩
        · rw [if_neg hb] at hgd
          exact .inr ⟨by cases b <;> cases want <;> simp_all, _, hgd⟩
      | _ => exact .inr ⟨by simp, _, hgd⟩

def Only (n : Nat) (K : Kr) : Exit → Act → World → Prop := fun e a w => e = .normal ∧ ∃ ρ, Ok n a ρ ∧ K true ρ w

theorem hld_sound {n : Nat} {P : Program} {md : Region.Mode} {ops : Array Oper} {wr : Nat → Bool} {K : Kr} (hsel : Region.noSelect ops = true) (hd : ∀ (i : Nat) o, ops[i]? = some o → o.dst.all (· < n) = true) :
    ∀ (S : List (Nat × Nat)) (τ : Bool) (listed : Array Bool) (a : Act) (ρ : Rg) (w : World), schedB md ops wr listed S = true → Ok n a ρ → hldK τ P ops S ρ w K → wpAnyE P md ops (Only n K) wr S.length listed a w
  | [], _, listed, a, ρ, w, hs, hok, h => wpAnyE_done (by simpa [schedB] using hs) ⟨rfl, ρ, hok, h⟩ 0
  | (i, 0) :: r, τ, listed, a, ρ, w, hs, hok, h => by
    simp only [schedB, Bool.and_eq_true] at hs
    obtain ⟨⟨hr, hf⟩, hs⟩ := hs
    obtain ⟨o, ho, h⟩ := nthK_get h
    have ho' : ops[i]? = some o := by simpa using ho
    have hdo := hd i o ho'
    obtain ⟨D, hD1, hD2, hD3⟩ := freeE_spec ho' hf
    refine (?_ : ∃ v, YieldsIf P ops (Ext [] w) o v a ∧ ∃ τ, hldK τ P ops r (put ρ o.dst v) w K).elim fun v ⟨hy, τ, hk⟩ =>
      wpAnyE_first ho' (Region.noSelect_spec hsel) (fun c a w hq => by cases hq.1) hD1 r.length listed a w hD2 hD3 (by simpa using hr) hy
        (hld_sound hsel hd r τ _ _ _ w hs (put_ok hok hdo v) hk)
    rcases step_cases hok h with ⟨hw, τ, hk⟩ | ⟨hw, τ, hk⟩
    · have hk' : mldK τ P o ρ w fun τ v => hldK τ P ops r (put ρ o.dst v) w K := hk
      obtain ⟨v, h1, h2⟩ := mld_sound hok hk'
      exact ⟨v, .inl ⟨hw, h1⟩, _, h2⟩
    · exact ⟨_, .inr ⟨hw, rfl⟩, _, hk⟩
  | (i, t + 1) :: r, τ, listed, a, ρ, w, hs, hok, h => by
    simp only [schedB, Bool.and_eq_true, beq_iff_eq, Bool.or_eq_true] at hs
    obtain ⟨⟨hr, ht⟩, hs⟩ := hs
    obtain ⟨o, ho, h⟩ := nthK_get h
    have ho' : ops[i]? = some o := by simpa using ho
    have hdo := hd i o ho'
    refine wpAnyE_one hr ?_
    unfold wpOp
    rw [ho']
    simp only
    rcases step_cases hok h with ⟨hw, τ, hk⟩ | ⟨hw, τ, hk⟩
    · rw [if_pos hw]
      refine .inl ?_
      cases t with
      | zero =>
        have hk' : opK τ P o ρ w fun τ v w' => Ext [] w w' ∧ hldK τ P ops r (put ρ o.dst v) w' K := hk
        exact op_sound hok hk' fun v w' ⟨he, h2⟩ => ⟨fun _ => he, hld_sound hsel hd r _ _ _ _ w' hs (put_ok hok hdo v) h2⟩
      | succ t =>
        have hwr : wr i = true := ht.elim (fun h => by cases h) id
        have hk' : opK τ P o ρ w fun τ v w' => hldK τ P ops r (put ρ o.dst v) w' K := hk
        exact op_sound hok hk' fun v w' h2 => ⟨fun h => absurd (hwr.symm.trans h) (by simp), hld_sound hsel hd r _ _ _ _ w' hs (put_ok hok hdo v) h2⟩
    · rw [if_neg (by rw [hw]; simp)]
      exact ⟨fun _ => Ext.refl _ _, hld_sound hsel hd r _ _ _ _ w hs (put_ok hok hdo _) hk⟩

/-- **A region that draws its order, along the plan S.** -/
theorem DrawK_held {P : Program} {n id : Nat} {l : List Oper} {ρ : Rg} {w : World} {Q : Post} (S : List (Nat × Nat)) (hm : P.follows .mixedOrders = true)
    (hB : (Region.noSelect l.toArray && (l.toArray.size == S.length) && schedB .any l.toArray (fun j => S.any fun p => p.1 == j && p.2 == 2) (Array.replicate l.toArray.size false) S) = true)
    (hd : (l.all fun o => o.dst.all (· < n)) = true)
    (h : hldK true P l.toArray S ρ w.drew fun τ => Q τ .normal) : DrawK P n id l.toArray ρ w Q := by
  intro a hok
  simp only [Bool.and_eq_true, beq_iff_eq] at hB
  obtain ⟨⟨h1, h2⟩, h3⟩ := hB
  refine wp_mono (wp_region_any (Q := Only n fun τ => Q τ .normal) hm ?_) ?_
  · rw [h2] at h3 ⊢
    refine wpAny_of_E _ _ _ _ (hld_sound h1 (fun i o ho => ?_) S true _ a ρ _ h3 hok h)
    exact List.all_eq_true.1 hd o (List.mem_of_getElem? (by simpa using ho))
  · rintro e a' w' ⟨rfl, ρ', hok', hk⟩
    exact ⟨ρ', hok', hk⟩

/-! ### Rules -/
section
variable {P : Program} {n : Nat} {ρ : Rg} {w : World} {K : Kr} {k : Kv} {kk : Bool → Value → Prop}
variable {all : List Oper} {r : List Oper} {d : Option Nat} {dn : Nat} {op : Op} {ty t : TypeId} {pos : String} {af : Array Edge} {g : Option (Nat × Bool)} {x y : Operand}
@[go_sem ↓] theorem nthK_zero {o : Oper} {F : Oper → Prop} : nthK (o :: r) 0 F = F o := (rfl)
@[go_sem ↓] theorem nthK_succ {o : Oper} {j : Nat} {F : Oper → Prop} : nthK (o :: r) (j + 1) F = nthK r j F := (rfl)
@[go_sem ↓] theorem hldK_nil : hldK true P all.toArray [] ρ w K = K true ρ w := (rfl)
@[go_sem ↓] theorem hldK_cons {i t : Nat} {S : List (Nat × Nat)} : hldK true P all.toArray ((i, t) :: S) ρ w K = nthK all i fun o => stepK true P all.toArray o ρ w t fun τ ρ' w' => hldK τ P all.toArray S ρ' w' K := (rfl)
@[go_sem ↓] theorem stepK_some {tag : Nat} : stepK true P all.toArray ⟨some dn, op, ty, pos, af, none⟩ ρ w tag K = runT true P ⟨some dn, op, ty, pos, af, none⟩ ρ w tag fun τ v w' => K τ ((dn, v) :: ρ) w' := (rfl)
@[go_sem ↓] theorem stepK_none {tag : Nat} : stepK true P all.toArray ⟨none, op, ty, pos, af, none⟩ ρ w tag K = runT true P ⟨none, op, ty, pos, af, none⟩ ρ w tag fun τ _ w' => K τ ρ w' := (rfl)
@[go_sem ↓] theorem stepK_guard_some {tag j : Nat} {want : Bool} : stepK true P all.toArray ⟨some dn, op, ty, pos, af, some (j, want)⟩ ρ w tag K =
    gslK all j fun t => lk ρ t fun g => gdK g want (fun τ => runT τ P ⟨some dn, op, ty, pos, af, some (j, want)⟩ ρ w tag fun τ v w' => K τ ((dn, v) :: ρ) w') (fun τ => K τ ((dn, undef) :: ρ) w) := by
  rw [gslK_eq]
  simp only [stepK, List.getElem?_toArray]
  rfl
@[go_sem ↓] theorem stepK_guard_none {tag j : Nat} {want : Bool} : stepK true P all.toArray ⟨none, op, ty, pos, af, some (j, want)⟩ ρ w tag K =
    gslK all j fun t => lk ρ t fun g => gdK g want (fun τ => runT τ P ⟨none, op, ty, pos, af, some (j, want)⟩ ρ w tag fun τ _ w' => K τ ρ w') (fun τ => K τ ρ w) := by
  rw [gslK_eq]
  simp only [stepK, List.getElem?_toArray]
  rfl
@[go_sem ↓] theorem runT_zero {o : Oper} : runT true P o ρ w 0 k = mldK true P o ρ w fun τ v => k τ v w := (rfl)
@[go_sem ↓] theorem runT_one {o : Oper} : runT true P o ρ w 1 k = opK true P o ρ w fun τ v w' => Ext [] w w' ∧ k τ v w' := (rfl)
@[go_sem ↓] theorem runT_two {o : Oper} : runT true P o ρ w 2 k = opK true P o ρ w k := (rfl)
@[go_sem ↓] theorem mldK_move : mldK true P ⟨d, .move x, ty, pos, af, g⟩ ρ w kk = evK ρ x fun v => kk true v := (rfl)
@[go_sem ↓] theorem mldK_assign : mldK true P ⟨d, .assign x, ty, pos, af, g⟩ ρ w kk = evK ρ x fun v => kk true v := (rfl)
@[go_sem ↓] theorem mldK_load : mldK true P ⟨d, .load t x, ty, pos, af, g⟩ ρ w kk = evK ρ x fun a => loadK P t a w fun τ v _ => kk τ v := (rfl)
/-- What a reading leaves: this value, and the world as it was. -/
def thsK (w : World) (v : Value) : Kv := fun _ u w' => w' = w ∧ u = v
@[go_sem ↓] theorem thsK_same {u v : Value} : thsK w v true u w = (u = v) := by simp [thsK]
@[go_sem ↓] theorem mldK_pick {c x y : Operand} : mldK true P ⟨d, .pick c x y, ty, pos, af, g⟩ ρ w kk = anyE w (fun w' v => opK true P ⟨d, .pick c x y, ty, pos, af, g⟩ ρ w' (thsK w' v)) kk := (rfl)
@[go_sem ↓] theorem mldK_binOp {o : BinOp} {yt : TypeId} : mldK true P ⟨d, .binOp o t x y yt, ty, pos, af, g⟩ ρ w kk = anyE w (fun w' v => opK true P ⟨d, .binOp o t x y yt, ty, pos, af, g⟩ ρ w' (thsK w' v)) kk := (rfl)
@[go_sem ↓] theorem mldK_unOp {o : UnOp} : mldK true P ⟨d, .unOp o t x, ty, pos, af, g⟩ ρ w kk = anyE w (fun w' v => opK true P ⟨d, .unOp o t x, ty, pos, af, g⟩ ρ w' (thsK w' v)) kk := (rfl)
@[go_sem ↓] theorem mldK_convert {s : TypeId} : mldK true P ⟨d, .convert s t x, ty, pos, af, g⟩ ρ w kk = anyE w (fun w' v => opK true P ⟨d, .convert s t x, ty, pos, af, g⟩ ρ w' (thsK w' v)) kk := (rfl)
@[go_sem ↓] theorem mldK_slice {lo hi mx : Option Operand} : mldK true P ⟨d, .slice t x lo hi mx, ty, pos, af, g⟩ ρ w kk = anyE w (fun w' v => opK true P ⟨d, .slice t x lo hi mx, ty, pos, af, g⟩ ρ w' (thsK w' v)) kk := (rfl)
@[go_sem ↓] theorem mldK_fieldAddr {j : Nat} : mldK true P ⟨d, .fieldAddr t x j, ty, pos, af, g⟩ ρ w kk = anyE w (fun w' v => opK true P ⟨d, .fieldAddr t x j, ty, pos, af, g⟩ ρ w' (thsK w' v)) kk := (rfl)
@[go_sem ↓] theorem mldK_field {j : Nat} : mldK true P ⟨d, .field t x j, ty, pos, af, g⟩ ρ w kk = anyE w (fun w' v => opK true P ⟨d, .field t x j, ty, pos, af, g⟩ ρ w' (thsK w' v)) kk := (rfl)
@[go_sem ↓] theorem mldK_indexAddr : mldK true P ⟨d, .indexAddr t x y, ty, pos, af, g⟩ ρ w kk = anyE w (fun w' v => opK true P ⟨d, .indexAddr t x y, ty, pos, af, g⟩ ρ w' (thsK w' v)) kk := (rfl)
@[go_sem ↓] theorem mldK_index : mldK true P ⟨d, .index t x y, ty, pos, af, g⟩ ρ w kk = anyE w (fun w' v => opK true P ⟨d, .index t x y, ty, pos, af, g⟩ ρ w' (thsK w' v)) kk := (rfl)
@[go_sem ↓] theorem mldK_nilCheck : mldK true P ⟨d, .nilCheck x, ty, pos, af, g⟩ ρ w kk = anyE w (fun w' v => opK true P ⟨d, .nilCheck x, ty, pos, af, g⟩ ρ w' (thsK w' v)) kk := (rfl)
@[go_sem ↓] theorem mldK_extract {j : Nat} : mldK true P ⟨d, .extract x j, ty, pos, af, g⟩ ρ w kk = anyE w (fun w' v => opK true P ⟨d, .extract x j, ty, pos, af, g⟩ ρ w' (thsK w' v)) kk := (rfl)
end
end Go.Eng
