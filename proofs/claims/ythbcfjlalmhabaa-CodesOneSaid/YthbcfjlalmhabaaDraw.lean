import Derived.Test.YthbcfjlalmhabaaApp
/-! Regions that draw their order: operations that only read, in whatever order, and a tail that stands in one order. -/
namespace Go.Eng
set_option linter.unusedSimpArgs false
set_option linter.unusedVariables false

/-- A call that leaves the world as it is. -/
def scaK (P : Program) (f : FuncId) (args : List Value) (w : World) (K : Bool → Value → Prop) : Prop :=
  (∀ (args : Array Value) (w : World), (callFunc f args).run P w = .ok (.enter f args) w) ∧ ∃ v, Calls P f args.toArray w (fun e w' => e = .returned v ∧ w' = w) ∧ K true v

/-- One operation that leaves the world as it is. -/
def stoK (τ : Bool) (P : Program) (o : Oper) (ρ : Rg) (w : World) (K : Bool → Value → Prop) : Prop :=
  match o.op with
  | .call c => match c.callee with
    | .value f => evK ρ f fun f => evsK ρ c.args.toList fun args =>
      match f with
      | .func (.func g) first captured => if first = #[] ∧ captured = #[] then scaK P g args w K else False
      | _ => False
    | .builtin b => evsK ρ c.args.toList fun args => runK P (builtin b c.argTypes o.type (c.args.map fun | .const _ => true | _ => false) args.toArray) w fun n w' => match n with | .value v => w' = w ∧ K true v | _ => False
    | _ => False
  | .store .. | .mapUpdate .. => False
  | _ => opK τ P o ρ w fun τ v w' => w' = w ∧ K τ v

theorem still_of_runK {P : Program} {o : Oper} {a : Act} {w : World} {s : Sem Value} {K : Bool → Value → Prop} {next : Act → Prop}
    (he : execOp a.eval o = (do pure (.value (← s)))) (h : runK P s w fun v w' => w' = w ∧ K true v) (hn : ∀ v, K true v → next (a.put o.dst v)) : o.still P a w next := by
  unfold Oper.still
  rw [he]
  unfold runK at h
  rw [Sem.run_bind]
  cases hs : s.run P w with
  | ok v w' => rw [hs] at h; exact ⟨h.1, hn _ h.2⟩
  | halt x w' => rw [hs] at h; exact h.elim
theorem still_value {P : Program} {o : Oper} {a : Act} {w : World} {v : Value} {next : Act → Prop} (he : (execOp a.eval o).run P w = .ok (.value v) w) (hn : next (a.put o.dst v)) : o.still P a w next := by
  unfold Oper.still
  rw [he]
  exact ⟨rfl, hn⟩

theorem stillUpon_of {P : Program} {o : Oper} {a : Act} {w : World} {r : Result Next} {K : Bool → Value → Prop} {next : Act → Prop}
    (h : resK r fun n w' => match n with | .value v => w' = w ∧ K true v | _ => False) (hn : ∀ v, K true v → next (a.put o.dst v)) : o.stillUpon P a w next r := by
  cases r with
  | halt x w' => exact h.elim
  | ok m w' =>
    cases m with
    | value v => exact ⟨h.1, hn _ h.2⟩
    | _ => exact (h : False).elim
theorem still_of_runN {P : Program} {o : Oper} {a : Act} {w : World} {s : Sem Next} {K : Bool → Value → Prop} {next : Act → Prop}
    (he : execOp a.eval o = s) (h : runK P s w fun n w' => match n with | .value v => w' = w ∧ K true v | _ => False) (hn : ∀ v, K true v → next (a.put o.dst v)) : o.still P a w next := by
  unfold Oper.still
  rw [he]
  exact stillUpon_of h hn

set_option maxHeartbeats 2000000 in
theorem sto_sound {τ : Bool} {n : Nat} {P : Program} {o : Oper} {a : Act} {ρ : Rg} {w : World} {K : Bool → Value → Prop} {next : Act → Prop}
    (hok : Ok n a ρ) (h : stoK τ P o ρ w K) (hn : ∀ v, K true v → next (a.put o.dst v)) : o.still P a w next := by
  obtain ⟨dst, op, ty, pos, after, guard⟩ := o
  cases op with
  | move x => exact still_value rfl (hn _ (evK_sound hok (K := fun v => w = w ∧ K true v) h).2)
  | assign x => exact still_value rfl (hn _ (evK_sound hok (K := fun v => w = w ∧ K true v) h).2)
  | pick c x y =>
    have h1 := evK_sound hok h
    have h2 := evK_sound hok h1
    have h3 := evK_sound hok h2
    cases hc : a.eval c with
    | bool t => rw [hc] at h3; exact still_value (v := bif t then a.eval x else a.eval y) (by simp only [execOp, hc, asBool, pure_bind]; cases t <;> rfl) (hn _ h3.2)
    | _ => rw [hc] at h3; exact h3.elim
  | alloc t => exact still_of_runK (s := Instr.alloc t true (.tuple #[])) rfl h hn
  | box t x => exact still_of_runK (s := Instr.box t (a.eval x)) rfl (evK_sound hok h) hn
  | build t ps =>
    have h1 := evpK_sound hok h
    refine still_of_runK (s := Instr.build t (ps.map fun (i, x) => (i, a.eval x))) rfl ?_ hn
    have e : (ps.map fun (i, x) => (i, a.eval x)) = (ps.toList.map fun (i, x) => (i, a.eval x)).toArray := by
      rw [← Array.toList_map, Array.toArray_toList]
    exact e ▸ h1
  | buildSlice t m ps =>
    have h1 := evpK_sound hok h
    refine still_of_runK (s := Instr.buildSlice t m (ps.map fun (i, x) => (i, a.eval x))) rfl ?_ hn
    have e : (ps.map fun (i, x) => (i, a.eval x)) = (ps.toList.map fun (i, x) => (i, a.eval x)).toArray := by
      rw [← Array.toList_map, Array.toArray_toList]
    exact e ▸ h1
  | load t x =>
    obtain ⟨v, h1, h2⟩ := loadK_run (evK_sound hok h)
    exact still_of_runK (s := Instr.loadAt t (a.eval x)) rfl (by unfold runK; rw [h1]; exact h2) hn
  | nilCheck x =>
    have h1 := evK_sound hok h
    split at h1
    · rename_i b hb; exact still_value (by simp only [execOp, hb]; rfl) (hn _ h1.2)
    · rename_i f l c hb; exact still_value (by simp only [execOp, hb]; rfl) (hn _ h1.2)
    · exact h1.elim
  | binOp op t x y yt => exact still_of_runK (s := do eqGuard op t x y (a.eval x) (a.eval y); binOp op t (a.eval x) (a.eval y)) rfl (evK_sound hok (evK_sound hok h)) hn
  | unOp op t x => exact still_of_runK (s := Op.unary op (a.eval x)) rfl (evK_sound hok h) hn
  | convert s d x => exact still_of_runK (s := Go.convert s d (a.eval x)) rfl (evK_sound hok h) hn
  | makeInterface t x => exact still_of_runK (s := Instr.makeInterface t (a.eval x)) rfl (evK_sound hok h) hn
  | makeFunc fn first captured =>
    have h1 := evsK_sound hok (evsK_sound hok h)
    simp only [← Array.toList_map, Array.toArray_toList] at h1
    exact still_value rfl (hn _ h1.2)
  | makeMap t r => exact still_of_runK (s := Instr.makeMap t (r.map a.eval)) rfl (evoK_sound hok h) hn
  | makeSlice t l c => exact still_of_runK (s := Instr.makeSlice t (a.eval l) (a.eval c)) rfl (evK_sound hok (evK_sound hok h)) hn
  | slice t x lo hi mx => exact still_of_runK (s := Instr.sliceAt t (a.eval x) (lo.map a.eval) (hi.map a.eval) (mx.map a.eval)) rfl (evoK_sound hok (evoK_sound hok (evoK_sound hok (evK_sound hok h)))) hn
  | fieldAddr s x f => exact still_of_runK (s := Instr.fieldAt s (a.eval x) f) rfl (evK_sound hok h) hn
  | field s x f => exact still_of_runK (s := Instr.field s (a.eval x) f) rfl (evK_sound hok h) hn
  | indexAddr t x i => exact still_of_runK (s := Instr.indexAt t (a.eval x) (a.eval i)) rfl (evK_sound hok (evK_sound hok h)) hn
  | index t x i => exact still_of_runK (s := Instr.index t (a.eval x) (a.eval i)) rfl (evK_sound hok (evK_sound hok h)) hn
  | lookup t x i c => exact still_of_runK (s := Instr.lookup t (a.eval x) (a.eval i) c) rfl (evK_sound hok (evK_sound hok h)) hn
  | typeAssert x xt at_ c => exact still_of_runK (s := Instr.typeAssert (a.eval x) xt at_ c) rfl (evK_sound hok h) hn
  | extract t i => exact still_of_runK (s := Instr.extract (a.eval t) i) rfl (evK_sound hok h) hn
  | call c =>
    obtain ⟨callee, args, ats⟩ := c
    cases callee with
    | value f =>
      have h1 := evsK_sound hok (evK_sound hok h)
      split at h1
      · rename_i g first captured hf
        split at h1
        · rename_i he
          obtain ⟨rfl, rfl⟩ := he
          obtain ⟨hc, v, hcall, hk⟩ := h1
          simp only [← Array.toList_map, Array.toArray_toList] at hcall
          unfold Oper.still
          simp only [execOp, resolve, hf, Deferred.ofValue, pure_bind, invoke, Array.empty_append, Array.append_empty, hc]
          exact ⟨rfl, v, hcall, hn _ hk⟩
        · exact h1.elim
      · exact h1.elim
    | builtin b =>
      have h1 := evsK_sound hok h
      simp only [← Array.toList_map, Array.toArray_toList] at h1
      exact still_of_runN rfl h1 hn
    | invoke r name => exact (h : False).elim
  | _ => exact (h : False).elim

def stosK (τ : Bool) (P : Program) (all : Array Oper) : List Oper → Rg → World → (Bool → Rg → Prop) → Prop
  | [], ρ, _, K => K true ρ
  | o :: r, ρ, w, K =>
    match o.guard with
    | none => stoK τ P o ρ w fun τ v => stosK τ P all r (put ρ o.dst v) w K
    | some (j, want) =>
      match (all[j]?).bind (·.dst) with
      | some t => lk ρ t fun g => gdK g want (fun τ => stoK τ P o ρ w fun τ v => stosK τ P all r (put ρ o.dst v) w K) (fun τ => stosK τ P all r (put ρ o.dst undef) w K)
      | none => False

theorem stos_sound {n : Nat} {P : Program} {all : Array Oper} {Q : Act → Prop} {K : Bool → Rg → Prop} {w : World}
    (hK : ∀ a ρ, Ok n a ρ → K true ρ → Q a) : ∀ (l : List Oper) (τ : Bool) (a : Act) (ρ : Rg),
    (∀ o ∈ l, o.dst.all (· < n) = true) → Ok n a ρ → stosK τ P all l ρ w K → wpStill P all w Q l a
  | [], _, a, ρ, _, hok, h => hK a ρ hok h
  | o :: r, τ, a, ρ, hd, hok, h => by
    have hdo : o.dst.all (· < n) = true := hd o (by simp)
    have hdr : ∀ x ∈ r, x.dst.all (· < n) = true := fun x hx => hd x (by simp [hx])
    have go : ∀ τ v, stosK τ P all r (put ρ o.dst v) w K → wpStill P all w Q r (a.put o.dst v) := fun τ v h' =>
      stos_sound hK r τ _ _ hdr (put_ok hok hdo v) h'
    have run : ∀ τ, (stoK τ P o ρ w fun τ v => stosK τ P all r (put ρ o.dst v) w K) → o.still P a w (wpStill P all w Q r) := fun τ h' =>
      sto_sound hok h' (go true)
    unfold stosK at h
    unfold wpStill
    cases hg : o.guard with
    | none =>
      rw [hg] at h
      rw [if_pos (wanted_none hg _)]
      exact run _ h
    | some jw =>
      obtain ⟨j, want⟩ := jw
      rw [hg] at h
      simp only at h
      cases ht : (all[j]?).bind (·.dst) with
      | none => rw [ht] at h; exact h.elim
      | some t =>
        rw [ht] at h
        obtain ⟨g, hget, hgd⟩ := lk_sound' hok h
        have hy : yielded all a.tmps j = match g with | .bool b => some b | _ => none := by
          unfold yielded
          rw [ht]
          simp only [Option.bind_some, hget]
          cases g <;> rfl
        have hwant : Region.wanted o (yielded all a.tmps) = (yielded all a.tmps j == some want) := by
          simp [Region.wanted, hg]
        rw [hwant, hy]
        cases g with
        | bool b =>
          simp only [gdK] at hgd
          by_cases hb : b = want
          · subst hb
            rw [if_pos rfl] at hgd
            simp only [BEq.rfl, if_true]
            exact run _ hgd
          · rw [if_neg hb] at hgd
            have : ((some b : Option Bool) == some want) = false := by
              cases b <;> cases want <;> simp_all
            simp only [this, Bool.false_eq_true, if_false]
            exact go _ _ hgd
        | _ => exact go _ _ hgd

/-- A region of reads in whatever order, and behind them what stands in one order. -/
theorem DrawK_still {P : Program} {n id : Nat} {l : List Oper} {ρ : Rg} {w : World} {Q : Post} (m : Nat) (hm : P.follows .mixedOrders = true) (hB : Region.lexTailB .any l.toArray m = true) (hd : (l.all fun o => o.dst.all (· < n)) = true)
    (h : stosK true P l.toArray (l.take m) ρ w.drew fun _ ρ' => opsK true P l.toArray (l.drop m) ρ' w.drew fun τ => Q τ .normal) : DrawK P n id l.toArray ρ w Q := by
  intro a hok
  have hd' : ∀ o ∈ l, o.dst.all (· < n) = true := fun o ho => List.all_eq_true.1 hd o ho
  refine wp_region_still_tail m hm hB (stos_sound (K := fun _ ρ' => opsK true P l.toArray (l.drop m) ρ' w.drew fun τ => Q τ .normal) ?_ (l.take m) true a ρ (fun o ho => hd' o (List.mem_of_mem_take ho)) hok h)
  intro a' ρ' hok' h'
  exact ops_sound (K := fun τ => Q τ .normal) (fun a ρ w ho hk => ⟨ρ, ho, hk⟩) (l.drop m) true a' ρ' _ (fun o ho => hd' o (List.mem_of_mem_drop ho)) hok' h'

/-- A region of reads alone. -/
theorem DrawK_reads {P : Program} {n id : Nat} {l : List Oper} {ρ : Rg} {w : World} {Q : Post} (hm : P.follows .mixedOrders = true) (hB : Region.lexB .any l.toArray = true) (hd : (l.all fun o => o.dst.all (· < n)) = true)
    (h : stosK true P l.toArray l ρ w.drew fun _ ρ' => Q true .normal ρ' w.drew) : DrawK P n id l.toArray ρ w Q := by
  intro a hok
  have hd' : ∀ o ∈ l, o.dst.all (· < n) = true := fun o ho => List.all_eq_true.1 hd o ho
  refine wp_region_still hm hB (stos_sound (K := fun _ ρ' => Q true .normal ρ' w.drew) ?_ l true a ρ hd' hok h)
  intro a' ρ' hok' h'
  exact ⟨ρ', hok', h'⟩

/-! ### Their rules -/
section
variable {P : Program} {n : Nat} {ρ : Rg} {w : World} {K : Bool → Rg → Prop} {k : Bool → Value → Prop}
variable {all : List Oper} {r : List Oper} {d : Option Nat} {dn : Nat} {op : Op} {ty t : TypeId} {pos : String} {af : Array Edge} {g : Option (Nat × Bool)} {x y : Operand}
@[go_sem ↓] theorem stosK_nil : stosK true P all.toArray [] ρ w K = K true ρ := (rfl)
@[go_sem ↓] theorem stosK_some : stosK true P all.toArray (⟨some dn, op, ty, pos, af, none⟩ :: r) ρ w K = stoK true P ⟨some dn, op, ty, pos, af, none⟩ ρ w fun τ v => stosK τ P all.toArray r ((dn, v) :: ρ) w K := (rfl)
@[go_sem ↓] theorem stosK_guard_some {j : Nat} {want : Bool} : stosK true P all.toArray (⟨some dn, op, ty, pos, af, some (j, want)⟩ :: r) ρ w K =
    gslK all j fun t => lk ρ t fun g => gdK g want (fun τ => stoK τ P ⟨some dn, op, ty, pos, af, some (j, want)⟩ ρ w fun τ v => stosK τ P all.toArray r ((dn, v) :: ρ) w K) (fun τ => stosK τ P all.toArray r ((dn, undef) :: ρ) w K) := by
  rw [gslK_eq]
  simp only [stosK, List.getElem?_toArray]
  rfl
/-- What a reading leaves: the world is the one that it was. -/
def samK (k : Bool → Value → Prop) (w : World) : Kv := fun τ v w' => w' = w ∧ k τ v
@[go_sem ↓] theorem samK_same {v : Value} : samK k w true v w = k true v := by simp [samK]
@[go_sem ↓] theorem stoK_move : stoK true P ⟨d, .move x, ty, pos, af, g⟩ ρ w k = evK ρ x fun v => k true v := by
  show evK ρ x (fun v => w = w ∧ k true v) = _
  simp
@[go_sem ↓] theorem stoK_assign : stoK true P ⟨d, .assign x, ty, pos, af, g⟩ ρ w k = evK ρ x fun v => k true v := by
  show evK ρ x (fun v => w = w ∧ k true v) = _
  simp
@[go_sem ↓] theorem stoK_pick {c x y : Operand} : stoK true P ⟨d, .pick c x y, ty, pos, af, g⟩ ρ w k = opK true P ⟨d, .pick c x y, ty, pos, af, g⟩ ρ w (samK k w) := (rfl)
@[go_sem ↓] theorem stoK_load : stoK true P ⟨d, .load t x, ty, pos, af, g⟩ ρ w k = opK true P ⟨d, .load t x, ty, pos, af, g⟩ ρ w (samK k w) := (rfl)
@[go_sem ↓] theorem stoK_nilCheck : stoK true P ⟨d, .nilCheck x, ty, pos, af, g⟩ ρ w k = opK true P ⟨d, .nilCheck x, ty, pos, af, g⟩ ρ w (samK k w) := (rfl)
@[go_sem ↓] theorem stoK_binOp {o : BinOp} {yt : TypeId} : stoK true P ⟨d, .binOp o t x y yt, ty, pos, af, g⟩ ρ w k = opK true P ⟨d, .binOp o t x y yt, ty, pos, af, g⟩ ρ w (samK k w) := (rfl)
@[go_sem ↓] theorem stoK_unOp {o : UnOp} : stoK true P ⟨d, .unOp o t x, ty, pos, af, g⟩ ρ w k = opK true P ⟨d, .unOp o t x, ty, pos, af, g⟩ ρ w (samK k w) := (rfl)
@[go_sem ↓] theorem stoK_convert {s : TypeId} : stoK true P ⟨d, .convert s t x, ty, pos, af, g⟩ ρ w k = opK true P ⟨d, .convert s t x, ty, pos, af, g⟩ ρ w (samK k w) := (rfl)
@[go_sem ↓] theorem stoK_slice {lo hi mx : Option Operand} : stoK true P ⟨d, .slice t x lo hi mx, ty, pos, af, g⟩ ρ w k = opK true P ⟨d, .slice t x lo hi mx, ty, pos, af, g⟩ ρ w (samK k w) := (rfl)
@[go_sem ↓] theorem stoK_fieldAddr {j : Nat} : stoK true P ⟨d, .fieldAddr t x j, ty, pos, af, g⟩ ρ w k = opK true P ⟨d, .fieldAddr t x j, ty, pos, af, g⟩ ρ w (samK k w) := (rfl)
@[go_sem ↓] theorem stoK_field {j : Nat} : stoK true P ⟨d, .field t x j, ty, pos, af, g⟩ ρ w k = opK true P ⟨d, .field t x j, ty, pos, af, g⟩ ρ w (samK k w) := (rfl)
@[go_sem ↓] theorem stoK_indexAddr : stoK true P ⟨d, .indexAddr t x y, ty, pos, af, g⟩ ρ w k = opK true P ⟨d, .indexAddr t x y, ty, pos, af, g⟩ ρ w (samK k w) := (rfl)
@[go_sem ↓] theorem stoK_index : stoK true P ⟨d, .index t x y, ty, pos, af, g⟩ ρ w k = opK true P ⟨d, .index t x y, ty, pos, af, g⟩ ρ w (samK k w) := (rfl)
@[go_sem ↓] theorem stoK_extract {j : Nat} : stoK true P ⟨d, .extract x j, ty, pos, af, g⟩ ρ w k = opK true P ⟨d, .extract x j, ty, pos, af, g⟩ ρ w (samK k w) := (rfl)
@[go_sem ↓] theorem stoK_build {ps : List (Nat × Operand)} : stoK true P ⟨d, .build t ps.toArray, ty, pos, af, g⟩ ρ w k = opK true P ⟨d, .build t ps.toArray, ty, pos, af, g⟩ ρ w (samK k w) := (rfl)
@[go_sem ↓] theorem stoK_call {xs : List Operand} {ats : Array TypeId} {f : Nat} : stoK true P ⟨d, .call { callee := .value (.func f), args := xs.toArray, argTypes := ats }, ty, pos, af, g⟩ ρ w k = evsK ρ xs fun args => scaK P f args w k := by
  show (evsK ρ xs fun args => if (#[] : Array Value) = #[] ∧ (#[] : Array Value) = #[] then scaK P f args w k else False) = _
  simp
end
theorem scaK_of {P : Program} {f : FuncId} {args : List Value} {w : World} {k : Bool → Value → Prop} {v : Value} (hc : ∀ (args : Array Value) (w : World), (callFunc f args).run P w = .ok (.enter f args) w) (h : Rets P f args w fun u w' => u = v ∧ w' = w) (hk : k true v) : scaK P f args w k :=
  ⟨hc, v, Calls.mono h fun e w' ⟨u, he, hu, hw⟩ => ⟨by rw [he, hu], hw⟩, hk⟩
end Go.Eng
