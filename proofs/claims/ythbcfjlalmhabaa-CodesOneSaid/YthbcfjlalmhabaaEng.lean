import Derived.Test.YthbcfjlalmhabaaBase
/-!
The engine: a second reading of the model's code, over registers that are a list of pairs, by recursion over the code; 'calls_den' carries what it says over to the model's own 'Calls'.
-/
namespace Go.Eng
set_option linter.unusedSimpArgs false
set_option linter.unusedVariables false

abbrev Rg := List (Nat × Value)

def fd : Rg → Nat → Option Value
  | [], _ => none
  | (s, v) :: r, t => match Nat.beq s t with | true => some v | false => fd r t

theorem fd_cons (s t : Nat) (v : Value) (r : Rg) : fd ((s, v) :: r) t = if s = t then some v else fd r t := by
  unfold fd
  by_cases h : s = t
  · subst h
    rw [Nat.beq_refl, if_pos rfl]
  · rw [if_neg h]
    have : Nat.beq s t = false := by
      cases hb : Nat.beq s t with
      | true => exact absurd (Nat.eq_of_beq_eq_true hb) h
      | false => rfl
    rw [this]
    cases r <;> rfl

def lk (ρ : Rg) (t : Nat) (K : Value → Prop) : Prop :=
  match fd ρ t with
  | some v => K v
  | none => False

theorem lk_nil (t : Nat) (K : Value → Prop) : lk [] t K = False := rfl
theorem lk_hit (t : Nat) (v : Value) (r : Rg) (K : Value → Prop) : lk ((t, v) :: r) t K = K v := by simp [lk, fd_cons]
theorem lk_miss (s t : Nat) (v : Value) (r : Rg) (K : Value → Prop) (h : s ≠ t) : lk ((s, v) :: r) t K = lk r t K := by simp [lk, fd_cons, h]

def evK (ρ : Rg) (x : Operand) (K : Value → Prop) : Prop :=
  match x with
  | .tmp t => lk ρ t K
  | .const v => K v
  | .global g => K (.pointer (some ⟨g, 0, none⟩))
  | .func f => K (.func (.func f) #[] #[])

def evsK (ρ : Rg) : List Operand → (List Value → Prop) → Prop
  | [], K => K []
  | x :: xs, K => evK ρ x fun v => evsK ρ xs fun vs => K (v :: vs)

def evpK (ρ : Rg) : List (Nat × Operand) → (List (Nat × Value) → Prop) → Prop
  | [], K => K []
  | (i, x) :: xs, K => evK ρ x fun v => evpK ρ xs fun vs => K ((i, v) :: vs)

def evoK (ρ : Rg) : Option Operand → (Option Value → Prop) → Prop
  | none, K => K none
  | some x, K => evK ρ x fun v => K (some v)

/-- What the registers of a frame are known to hold. -/
structure Ok (n : Nat) (a : Act) (ρ : Rg) : Prop where
  defers : a.defers = []
  size : a.tmps.size = n
  get : ∀ t v, fd ρ t = some v → a.tmps[t]? = some v

theorem lk_sound {n : Nat} {a : Act} {ρ : Rg} (h : Ok n a ρ) {t : Nat} {K : Value → Prop} (hk : lk ρ t K) : K (a.tmps.getD t undef) := by
  unfold lk at hk
  split at hk
  · rename_i v hv
    have := h.get t v hv
    rw [Array.getD_eq_getD_getElem?, this]
    exact hk
  · exact hk.elim

theorem lk_sound' {n : Nat} {a : Act} {ρ : Rg} (h : Ok n a ρ) {t : Nat} {K : Value → Prop} (hk : lk ρ t K) : ∃ v, a.tmps[t]? = some v ∧ K v := by
  unfold lk at hk
  split at hk
  · rename_i v hv
    exact ⟨v, h.get t v hv, hk⟩
  · exact hk.elim

theorem evK_sound {n : Nat} {a : Act} {ρ : Rg} (h : Ok n a ρ) {x : Operand} {K : Value → Prop} (hk : evK ρ x K) : K (a.eval x) := by
  cases x with
  | tmp t => exact lk_sound h hk
  | const v => exact hk
  | global g => exact hk
  | func f => exact hk

theorem evsK_sound {n : Nat} {a : Act} {ρ : Rg} (h : Ok n a ρ) : ∀ {xs : List Operand} {K : List Value → Prop}, evsK ρ xs K → K (xs.map a.eval)
  | [], _, hk => hk
  | x :: xs, K, hk => by
    have h1 := evsK_sound h (evK_sound h (x := x) (K := fun v => evsK ρ xs fun vs => K (v :: vs)) hk)
    exact h1

theorem evpK_sound {n : Nat} {a : Act} {ρ : Rg} (h : Ok n a ρ) : ∀ {xs : List (Nat × Operand)} {K : List (Nat × Value) → Prop}, evpK ρ xs K → K (xs.map fun (i, x) => (i, a.eval x))
  | [], _, hk => hk
  | (i, x) :: xs, K, hk => by
    have h1 := evpK_sound h (evK_sound h (x := x) (K := fun v => evpK ρ xs fun vs => K ((i, v) :: vs)) hk)
    exact h1

theorem evoK_sound {n : Nat} {a : Act} {ρ : Rg} (h : Ok n a ρ) {x : Option Operand} {K : Option Value → Prop} (hk : evoK ρ x K) : K (x.map a.eval) := by
  cases x with
  | none => exact hk
  | some x => exact evK_sound h (K := fun v => K (some v)) hk

def put (ρ : Rg) (d : Option Tmp) (v : Value) : Rg :=
  match d with
  | some d => (d, v) :: ρ
  | none => ρ

theorem put_ok {n : Nat} {a : Act} {ρ : Rg} (h : Ok n a ρ) {d : Option Tmp} (hd : d.all (· < n) = true) (v : Value) : Ok n (a.put d v) (put ρ d v) := by
  cases d with
  | none => exact h
  | some d =>
    simp at hd
    refine ⟨h.defers, by simp [Act.put, h.size], fun t u hu => ?_⟩
    simp only [put, fd_cons] at hu
    by_cases e : d = t
    · subst e
      simp at hu
      subst hu
      simp [Act.put, h.size, hd]
    · rw [if_neg e] at hu
      have := h.get t u hu
      simp only [Act.put, Array.getElem?_setIfInBounds]
      rw [if_neg e]
      exact this

def resK {α : Type} : Result α → (α → World → Prop) → Prop
  | .ok v w, K => K v w
  | .halt _ _, _ => False

def runK {α : Type} (P : Program) (s : Sem α) (w : World) (K : α → World → Prop) : Prop := resK (s.run P w) K

theorem runK_pure {α : Type} (P : Program) (v : α) (w : World) (K : α → World → Prop) : runK P (pure v) w K = K v w := rfl
theorem runK_bind {α β : Type} (P : Program) (s : Sem α) (f : α → Sem β) (w : World) (K : β → World → Prop) :
    runK P (s >>= f) w K = runK P s w (fun v w' => runK P (f v) w' K) := by
  unfold runK
  rw [Sem.run_bind]
  cases s.run P w <;> rfl
theorem runK_mono {α : Type} {P : Program} {s : Sem α} {w : World} {K K' : α → World → Prop} (h : runK P s w K) (hk : ∀ v w', K v w' → K' v w') : runK P s w K' := by
  unfold runK at *
  cases hs : s.run P w with
  | ok v w' => rw [hs] at h; exact hk _ _ h
  | halt x w' => rw [hs] at h; exact h.elim

/-- What comes behind, once a value is there. (The Bool is a mark for the rules: they take only what bears 'true'; what waits bears a variable.) -/
abbrev Kv := Bool → Value → World → Prop

/-- A call, as what it comes to: it returns. -/
def callK (P : Program) (f : FuncId) (args : Array Value) (w : World) (K : Kv) : Prop :=
  runK P (callFunc f args) w fun n w' =>
    match n with
    | .enter g xs => Calls P g xs w' (fun e w'' => ∃ v, e = .returned v ∧ K true v w'')
    | .value v => K true v w'
    | _ => False

def nextK (P : Program) (s : Sem Next) (w : World) (K : Kv) : Prop :=
  runK P s w fun n w' =>
    match n with
    | .enter g xs => Calls P g xs w' (fun e w'' => ∃ v, e = .returned v ∧ K true v w'')
    | .value v => K true v w'
    | .skip => K true undef w'
    | _ => False

/-- One operation. -/
def opK (_τ : Bool) (P : Program) (o : Oper) (ρ : Rg) (w : World) (K : Kv) : Prop :=
  match o.op with
  | .move x | .assign x => evK ρ x fun v => K true v w
  | .pick c a b => evK ρ c fun c => evK ρ a fun x => evK ρ b fun y => match c with | .bool t => K true (bif t then x else y) w | _ => False
  | .alloc t => runK P (Instr.alloc t true (.tuple #[])) w (K true)
  | .box t x => evK ρ x fun v => runK P (Instr.box t v) w (K true)
  | .build t ps => evpK ρ ps.toList fun vs => runK P (Instr.build t vs.toArray) w (K true)
  | .buildSlice t n ps => evpK ρ ps.toList fun vs => runK P (Instr.buildSlice t n vs.toArray) w (K true)
  | .load t a => evK ρ a fun a => loadK P t a w K
  | .store t a x => evK ρ a fun a => evK ρ x fun x => storeK P t a x w fun τ w' => K τ undef w'
  | .nilCheck x => evK ρ x fun x => match x with | .pointer (some a) => K true (.pointer (some a)) w | .func (.func f) l c => K true (.func (.func f) l c) w | _ => False
  | .binOp op t x y _ => evK ρ x fun u => evK ρ y fun v => runK P (do eqGuard op t x y u v; binOp op t u v) w (K true)
  | .unOp op _ x => evK ρ x fun x => runK P (Op.unary op x) w (K true)
  | .convert s d x => evK ρ x fun x => runK P (convert s d x) w (K true)
  | .makeInterface t x => evK ρ x fun x => runK P (Instr.makeInterface t x) w (K true)
  | .makeFunc fn first captured => evsK ρ first.toList fun f => evsK ρ captured.toList fun c => K true (.func fn f.toArray c.toArray) w
  | .makeMap t r => evoK ρ r fun r => runK P (Instr.makeMap t r) w (K true)
  | .makeSlice t l c => evK ρ l fun l => evK ρ c fun c => runK P (Instr.makeSlice t l c) w (K true)
  | .slice t x lo hi mx => evK ρ x fun x => evoK ρ lo fun lo => evoK ρ hi fun hi => evoK ρ mx fun mx => runK P (Instr.sliceAt t x lo hi mx) w (K true)
  | .fieldAddr s x f => evK ρ x fun x => runK P (Instr.fieldAt s x f) w (K true)
  | .field t x f => evK ρ x fun x => runK P (Instr.field t x f) w (K true)
  | .indexAddr t x i => evK ρ x fun x => evK ρ i fun i => runK P (Instr.indexAt t x i) w (K true)
  | .index t x i => evK ρ x fun x => evK ρ i fun i => runK P (Instr.index t x i) w (K true)
  | .lookup t x i ok => evK ρ x fun x => evK ρ i fun i => runK P (Instr.lookup t x i ok) w (K true)
  | .mapUpdate t m k x => evK ρ m fun m => evK ρ k fun k => evK ρ x fun x => runK P (Instr.mapUpdate t m k x) w fun _ w' => K true undef w'
  | .typeAssert x xt at_ ok => evK ρ x fun x => runK P (Instr.typeAssert x xt at_ ok) w (K true)
  | .extract t i => evK ρ t fun t => runK P (Instr.extract t i) w (K true)
  | .call c => match c.callee with
    | .value f => evK ρ f fun f => evsK ρ c.args.toList fun args =>
      match f with
      | .func (.func g) first captured => callK P g (first ++ args.toArray ++ captured) w K
      | _ => False
    | .builtin b => evsK ρ c.args.toList fun args => nextK P (builtin b c.argTypes o.type (c.args.map fun | .const _ => true | _ => false) args.toArray) w K
    | .invoke recv name => evK ρ recv fun r => evsK ρ c.args.toList fun args => nextK P (callMethod r name args.toArray) w K
  | _ => False

theorem wp_of_runK {P : Program} {o : Oper} {a : Act} {w : World} {s : Sem Value} {K : Value → World → Prop} {next : Act → World → Prop} {Q : Exit → Act → World → Prop}
    (he : execOp a.eval o = (do pure (.value (← s)))) (h : runK P s w K) (hn : ∀ v w', K v w' → next (a.put o.dst v) w') : o.wp P a w next Q := by
  unfold Oper.wp
  rw [he]
  unfold runK at h
  rw [Sem.run_bind]
  cases hs : s.run P w with
  | ok v w' => rw [hs] at h; exact hn _ _ h
  | halt x w' => rw [hs] at h; exact h.elim

theorem wp_of_runU {P : Program} {o : Oper} {a : Act} {w : World} {s : Sem Unit} {K : Value → World → Prop} {next : Act → World → Prop} {Q : Exit → Act → World → Prop}
    (he : execOp a.eval o = (do s; pure .skip)) (h : runK P s w fun _ w' => K undef w') (hn : ∀ v w', K v w' → next (a.put o.dst v) w') : o.wp P a w next Q := by
  unfold Oper.wp
  rw [he]
  unfold runK at h
  rw [Sem.run_bind]
  cases hs : s.run P w with
  | ok v w' => rw [hs] at h; exact hn _ _ h
  | halt x w' => rw [hs] at h; exact h.elim

theorem upon_of_next {P : Program} {o : Oper} {a : Act} {r : Result Next} {K : Kv} {next : Act → World → Prop} {Q : Exit → Act → World → Prop}
    (h : resK r fun n w' =>
      match n with
      | .enter g xs => Calls P g xs w' (fun e w'' => ∃ v, e = .returned v ∧ K true v w'')
      | .value v => K true v w'
      | .skip => K true undef w'
      | _ => False) (hn : ∀ v w', K true v w' → next (a.put o.dst v) w') : o.upon P a next Q r := by
  cases r with
  | halt x w' => exact h.elim
  | ok n w' =>
    cases n with
    | value v => exact hn _ _ h
    | skip => exact hn _ _ h
    | enter g xs =>
      refine Calls.mono (h : Calls P g xs w' _) fun e w'' he => ?_
      obtain ⟨v, rfl, hk⟩ := he
      exact hn _ _ hk
    | _ => exact (h : False).elim

theorem wp_of_nextK {P : Program} {o : Oper} {a : Act} {w : World} {s : Sem Next} {K : Kv} {next : Act → World → Prop} {Q : Exit → Act → World → Prop}
    (he : execOp a.eval o = s) (h : nextK P s w K) (hn : ∀ v w', K true v w' → next (a.put o.dst v) w') : o.wp P a w next Q := by
  unfold Oper.wp
  rw [he]
  exact upon_of_next h hn

theorem nextK_of_callK {P : Program} {f : FuncId} {args : Array Value} {w : World} {K : Kv} (h : callK P f args w K) : nextK P (callFunc f args) w K := by
  refine runK_mono h fun n w' hk => ?_
  cases n <;> first | exact hk | exact hk.elim

set_option maxHeartbeats 2000000 in
theorem op_sound {τ : Bool} {n : Nat} {P : Program} {o : Oper} {a : Act} {ρ : Rg} {w : World} {K : Kv} {next : Act → World → Prop} {Q : Exit → Act → World → Prop}
    (hok : Ok n a ρ) (h : opK τ P o ρ w K) (hn : ∀ v w', K true v w' → next (a.put o.dst v) w') : o.wp P a w next Q := by
  obtain ⟨dst, op, ty, pos, after, guard⟩ := o
  cases op with
  | move x => exact hn _ _ (evK_sound hok (K := fun v => K true v w) h)
  | assign x => exact hn _ _ (evK_sound hok (K := fun v => K true v w) h)
  | pick c x y =>
    have h1 := evK_sound hok h
    have h2 := evK_sound hok h1
    have h3 := evK_sound hok h2
    unfold Oper.wp
    simp only [execOp]
    cases hc : a.eval c with
    | bool t => rw [hc] at h3; cases t <;> exact hn _ _ h3
    | _ => rw [hc] at h3; exact h3.elim
  | alloc t => exact wp_of_runK (s := Instr.alloc t true (.tuple #[])) rfl h hn
  | box t x => exact wp_of_runK (s := Instr.box t (a.eval x)) rfl (evK_sound hok h) hn
  | build t ps =>
    have h1 := evpK_sound hok h
    refine wp_of_runK (s := Instr.build t (ps.map fun (i, x) => (i, a.eval x))) rfl ?_ hn
    have e : (ps.map fun (i, x) => (i, a.eval x)) = (ps.toList.map fun (i, x) => (i, a.eval x)).toArray := by
      rw [← Array.toList_map, Array.toArray_toList]
    exact e ▸ h1
  | buildSlice t m ps =>
    have h1 := evpK_sound hok h
    refine wp_of_runK (s := Instr.buildSlice t m (ps.map fun (i, x) => (i, a.eval x))) rfl ?_ hn
    have e : (ps.map fun (i, x) => (i, a.eval x)) = (ps.toList.map fun (i, x) => (i, a.eval x)).toArray := by
      rw [← Array.toList_map, Array.toArray_toList]
    exact e ▸ h1
  | load t x =>
    obtain ⟨v, h1, h2⟩ := loadK_run (evK_sound hok h)
    exact wp_of_runK (s := Instr.loadAt t (a.eval x)) rfl (by unfold runK; rw [h1]; exact h2) hn
  | store t x y =>
    obtain ⟨w', h1, h2⟩ := storeK_run (evK_sound hok (evK_sound hok h))
    exact wp_of_runU (s := Instr.storeAt t (a.eval x) (a.eval y)) rfl (by unfold runK; rw [h1]; exact h2) hn
  | nilCheck x =>
    have h1 := evK_sound hok h
    unfold Oper.wp
    simp only [execOp]
    split at h1
    · rename_i b hb; rw [hb]; exact hn _ _ h1
    · rename_i f l c hb; rw [hb]; exact hn _ _ h1
    · exact h1.elim
  | binOp op t x y yt => exact wp_of_runK (s := do eqGuard op t x y (a.eval x) (a.eval y); binOp op t (a.eval x) (a.eval y)) rfl (evK_sound hok (evK_sound hok h)) hn
  | unOp op t x => exact wp_of_runK (s := Op.unary op (a.eval x)) rfl (evK_sound hok h) hn
  | convert s d x => exact wp_of_runK (s := Go.convert s d (a.eval x)) rfl (evK_sound hok h) hn
  | makeInterface t x => exact wp_of_runK (s := Instr.makeInterface t (a.eval x)) rfl (evK_sound hok h) hn
  | makeFunc fn first captured =>
    have h1 := evsK_sound hok (evsK_sound hok h)
    simp only [← Array.toList_map, Array.toArray_toList] at h1
    exact hn _ _ h1
  | makeMap t r => exact wp_of_runK (s := Instr.makeMap t (r.map a.eval)) rfl (evoK_sound hok h) hn
  | makeSlice t l c => exact wp_of_runK (s := Instr.makeSlice t (a.eval l) (a.eval c)) rfl (evK_sound hok (evK_sound hok h)) hn
  | slice t x lo hi mx => exact wp_of_runK (s := Instr.sliceAt t (a.eval x) (lo.map a.eval) (hi.map a.eval) (mx.map a.eval)) rfl (evoK_sound hok (evoK_sound hok (evoK_sound hok (evK_sound hok h)))) hn
  | fieldAddr s x f => exact wp_of_runK (s := Instr.fieldAt s (a.eval x) f) rfl (evK_sound hok h) hn
  | field s x f => exact wp_of_runK (s := Instr.field s (a.eval x) f) rfl (evK_sound hok h) hn
  | indexAddr t x i => exact wp_of_runK (s := Instr.indexAt t (a.eval x) (a.eval i)) rfl (evK_sound hok (evK_sound hok h)) hn
  | index t x i => exact wp_of_runK (s := Instr.index t (a.eval x) (a.eval i)) rfl (evK_sound hok (evK_sound hok h)) hn
  | lookup t x i c => exact wp_of_runK (s := Instr.lookup t (a.eval x) (a.eval i) c) rfl (evK_sound hok (evK_sound hok h)) hn
  | mapUpdate t m k x => exact wp_of_runU (s := Instr.mapUpdate t (a.eval m) (a.eval k) (a.eval x)) rfl (evK_sound hok (evK_sound hok (evK_sound hok h))) hn
  | typeAssert x xt at_ c => exact wp_of_runK (s := Instr.typeAssert (a.eval x) xt at_ c) rfl (evK_sound hok h) hn
  | extract t i => exact wp_of_runK (s := Instr.extract (a.eval t) i) rfl (evK_sound hok h) hn
  | call c =>
    obtain ⟨callee, args, ats⟩ := c
    cases callee with
    | value f =>
      have h1 := evsK_sound hok (evK_sound hok h)
      unfold Oper.wp
      simp only [execOp, resolve]
      split at h1
      · rename_i g first captured hf
        rw [hf]
        simp only [Deferred.ofValue, pure_bind, invoke]
        simp only [← Array.toList_map, Array.toArray_toList] at h1
        exact upon_of_next (nextK_of_callK h1) hn
      · exact h1.elim
    | builtin b =>
      have h1 := evsK_sound hok h
      simp only [← Array.toList_map, Array.toArray_toList] at h1
      exact wp_of_nextK rfl h1 hn
    | invoke r name =>
      have h1 := evsK_sound hok (evK_sound hok h)
      simp only [← Array.toList_map, Array.toArray_toList] at h1
      refine wp_of_nextK (s := callMethod (a.eval r) name (args.map a.eval)) ?_ h1 hn
      have e0 : (#[a.eval r] ++ args.map a.eval)[0]? = some (a.eval r) := by
        rw [Array.getElem?_append_left (by simp)]; rfl
      have e1 : (#[a.eval r] ++ args.map a.eval).extract 1 (#[a.eval r] ++ args.map a.eval).size = args.map a.eval := by
        apply Array.toList_inj.1
        simp
        exact List.take_of_length_le (by simp)
      simp only [execOp, resolve, pure_bind, invoke, e0, e1]
  | _ => exact (h : False).elim

/-! ### Lists of operations -/

def gdK (g : Value) (want : Bool) (A B : Bool → Prop) : Prop :=
  match g with
  | .bool b => if b = want then A true else B true
  | _ => B true

abbrev Kr := Bool → Rg → World → Prop

def opsK (τ : Bool) (P : Program) (all : Array Oper) : List Oper → Rg → World → Kr → Prop
  | [], ρ, w, K => K true ρ w
  | o :: r, ρ, w, K =>
    match o.guard with
    | none => opK τ P o ρ w fun τ v w' => opsK τ P all r (put ρ o.dst v) w' K
    | some (j, want) =>
      match (all[j]?).bind (·.dst) with
      | some t => lk ρ t fun g => gdK g want (fun τ => opK τ P o ρ w fun τ v w' => opsK τ P all r (put ρ o.dst v) w' K) (fun τ => opsK τ P all r (put ρ o.dst undef) w K)
      | none => False

theorem wanted_none {o : Oper} (h : o.guard = none) (y : Nat → Option Bool) : Region.wanted o y = true := by
  simp [Region.wanted, h]

theorem ops_sound {n : Nat} {P : Program} {all : Array Oper} {Q : Exit → Act → World → Prop} {K : Kr}
    (hK : ∀ a ρ w, Ok n a ρ → K true ρ w → Q .normal a w) : ∀ (l : List Oper) (τ : Bool) (a : Act) (ρ : Rg) (w : World),
    (∀ o ∈ l, o.dst.all (· < n) = true) → Ok n a ρ → opsK τ P all l ρ w K → wpList P all Q l a w
  | [], _, a, ρ, w, _, hok, h => hK a ρ w hok h
  | o :: r, τ, a, ρ, w, hd, hok, h => by
    have hdo : o.dst.all (· < n) = true := hd o (by simp)
    have hdr : ∀ x ∈ r, x.dst.all (· < n) = true := fun x hx => hd x (by simp [hx])
    have go : ∀ τ v w', opsK τ P all r (put ρ o.dst v) w' K → wpList P all Q r (a.put o.dst v) w' := fun τ v w' h' =>
      ops_sound hK r τ _ _ w' hdr (put_ok hok hdo v) h'
    have run : ∀ τ, (opK τ P o ρ w fun τ v w' => opsK τ P all r (put ρ o.dst v) w' K) → o.wp P a w (wpList P all Q r) Q := fun τ h' =>
      op_sound hok h' (go true)
    unfold opsK at h
    unfold wpList
    cases hg : o.guard with
    | none =>
      rw [hg] at h
      rw [if_pos (wanted_none hg _)]
      exact .inl (run _ h)
    | some jw =>
      obtain ⟨j, want⟩ := jw
      rw [hg] at h
      simp only at h
      cases ht : (all[j]?).bind (·.dst) with
      | none => rw [ht] at h; exact h.elim
      | some t =>
        rw [ht] at h
        obtain ⟨g, hget, hgd⟩ := lk_sound' hok h
        have hy : yielded all a.tmps j = match g with | .bool b => some b | _ => none := by
          unfold yielded
          rw [ht]
          simp only [Option.bind_some, hget]
          cases g <;> rfl
        have hwant : Region.wanted o (yielded all a.tmps) = (yielded all a.tmps j == some want) := by
          simp [Region.wanted, hg]
        rw [hwant, hy]
        cases g with
        | bool b =>
          simp only [gdK] at hgd
          by_cases hb : b = want
          · subst hb
            rw [if_pos rfl] at hgd
            simp only [BEq.rfl, if_true]
            exact .inl (run _ hgd)
          · rw [if_neg hb] at hgd
            have : ((some b : Option Bool) == some want) = false := by
              cases b <;> cases want <;> simp_all
            simp only [this, Bool.false_eq_true, if_false]
            exact go _ _ _ hgd
        | _ => exact go _ _ _ hgd

/-! ### Code -/

def cdK (v : Value) (A B : Bool → Prop) : Prop :=
  match v with
  | .bool b => (b = true → A true) ∧ (b = false → B true)
  | _ => False

abbrev Post := Bool → Exit → Rg → World → Prop

def thenQ (K : Kr) (Q : Post) : Post := fun τ e ρ w =>
  match e with
  | .normal => K τ ρ w
  | e => Q τ e ρ w

def blockQ (id : Nat) (Q : Post) : Post := fun τ e ρ w =>
  match e with
  | .exit i => if i = id then Q τ .normal ρ w else Q τ (.exit i) ρ w
  | e => Q τ e ρ w

def Sub (ρ' ρ : Rg) : Prop := ∀ t v, fd ρ' t = some v → fd ρ t = some v

theorem Ok.sub {n : Nat} {a : Act} {ρ ρ' : Rg} (h : Ok n a ρ) (hs : Sub ρ' ρ) : Ok n a ρ' := ⟨h.defers, h.size, fun t v hv => h.get t v (hs t v hv)⟩

/-- A loop, by what holds at its head: 'I m ρ w', m going down. -/
def LoopK (body : Rg → World → Post → Prop) (ρ : Rg) (w : World) (Q : Post) : Prop :=
  ∃ I : Nat → Rg → World → Prop, (∃ m ρ₀, Sub ρ₀ ρ ∧ I m ρ₀ w) ∧
    ∀ m ρ w, I m ρ w → body ρ w (thenQ (fun _ ρ' w' => ∃ m' ρ₀, m' < m ∧ Sub ρ₀ ρ' ∧ I m' ρ₀ w') Q)

def Lift (n : Nat) (Q : Post) : Exit → Act → World → Prop := fun e a w => ∃ ρ, Ok n a ρ ∧ Q true e ρ w

def RawK (P : Program) (n : Nat) (c : Code) (ρ : Rg) (w : World) (Q : Post) : Prop := ∀ a, Ok n a ρ → c.wp P (Lift n Q) a w

def DrawK (P : Program) (n id : Nat) (ops : Array Oper) (ρ : Rg) (w : World) (Q : Post) : Prop := RawK P n (.region id ops true) ρ w Q

def den (τ : Bool) (P : Program) (n : Nat) : Code → Rg → World → Post → Prop
  | .skip, ρ, w, Q => Q true .normal ρ w
  | .region id ops draw, ρ, w, Q => bif draw then DrawK P n id ops ρ w Q else opsK τ P ops ops.toList ρ w fun τ => Q τ .normal
  | .seq a b, ρ, w, Q => den τ P n a ρ w (thenQ (fun τ ρ' w' => den τ P n b ρ' w' Q) Q)
  | .cond c a b, ρ, w, Q => evK ρ c fun v => cdK v (fun τ => den τ P n a ρ w Q) (fun τ => den τ P n b ρ w Q)
  | .block id c, ρ, w, Q => den τ P n c ρ w (blockQ id Q)
  | .loop c, ρ, w, Q => LoopK (den true P n c) ρ w Q
  | .exit id, ρ, w, Q => Q true (.exit id) ρ w
  | .ret, ρ, w, Q => Q true .ret ρ w
  | c, ρ, w, Q => RawK P n c ρ w Q

def okC (n : Nat) : Code → Bool
  | .region _ ops _ => ops.toList.all fun o => o.dst.all (· < n)
  | .seq a b => okC n a && okC n b
  | .cond _ a b => okC n a && okC n b
  | .block _ c => okC n c
  | .loop c => okC n c
  | _ => true

theorem wp_region_list' {P : Program} {id : Nat} {ops : Array Oper} {Q : Exit → Act → World → Prop} {a : Act} {w : World}
    (h : wpList P ops Q ops.toList a w) : (Code.region id ops false).wp P Q a w := wp_region_list h

theorem least {p : Nat → Prop} : ∀ m, p m → ∃ m, p m ∧ ∀ k, p k → m ≤ k := by
  intro m
  induction m using Nat.strongRecOn with
  | _ m ih =>
    intro h
    by_cases hx : ∃ k, k < m ∧ p k
    · obtain ⟨k, hk, hp⟩ := hx
      exact ih k hk hp
    · exact ⟨m, h, fun k hk => Nat.le_of_not_lt fun hlt => hx ⟨k, hlt, hk⟩⟩

theorem den_sound {P : Program} {n : Nat} : ∀ (c : Code), okC n c = true → ∀ (τ : Bool) (a : Act) (ρ : Rg) (w : World) (Q : Post), Ok n a ρ → den τ P n c ρ w Q → c.wp P (Lift n Q) a w
  | .skip, _, τ, a, ρ, w, Q, hok, h => wp_skip ⟨ρ, hok, h⟩
  | .region id ops draw, hc, τ, a, ρ, w, Q, hok, h => by
    cases draw with
    | true => exact (h : DrawK P n id ops ρ w Q) a hok
    | false =>
      refine wp_region_list' (ops_sound (K := fun τ => Q τ .normal) (fun a ρ w ho hk => ⟨ρ, ho, hk⟩) _ τ a ρ w ?_ hok h)
      intro o ho
      exact List.all_eq_true.1 hc o ho
  | .seq x y, hc, τ, a, ρ, w, Q, hok, h => by
    simp only [okC, Bool.and_eq_true] at hc
    refine wp_seq (wp_mono (den_sound x hc.1 _ a ρ w _ hok h) ?_)
    intro e a' w' ⟨ρ', hok', hq⟩
    cases e with
    | normal => exact den_sound y hc.2 _ a' ρ' w' Q hok' hq
    | _ => exact ⟨ρ', hok', hq⟩
  | .cond c x y, hc, τ, a, ρ, w, Q, hok, h => by
    simp only [okC, Bool.and_eq_true] at hc
    have h1 := evK_sound hok h
    unfold cdK at h1
    split at h1
    · rename_i b hb
      exact wp_cond_split hb (fun e => den_sound x hc.1 _ a ρ w Q hok (h1.1 e)) (fun e => den_sound y hc.2 _ a ρ w Q hok (h1.2 e))
    · exact h1.elim
  | .block id c, hc, τ, a, ρ, w, Q, hok, h => by
    refine wp_block (wp_mono (den_sound c hc _ a ρ w _ hok h) ?_)
    intro e a' w' ⟨ρ', hok', hq⟩
    cases e with
    | exit i =>
      simp only [blockQ] at hq
      simp only [Exit.inBlock]
      by_cases hi : i = id
      · rw [if_pos hi] at hq ⊢; exact ⟨ρ', hok', hq⟩
      · rw [if_neg hi] at hq ⊢; exact ⟨ρ', hok', hq⟩
    | _ => exact ⟨ρ', hok', hq⟩
  | .loop c, hc, τ, a, ρ, w, Q, hok, h => by
    obtain ⟨I, ⟨m₀, ρ₀, hs₀, hI₀⟩, round⟩ := h
    classical
    let J : Act → World → Nat → Prop := fun a w m => ∃ ρ, Ok n a ρ ∧ I m ρ w
    have lst : ∀ a w, (∃ m, J a w m) → ∃ m, J a w m ∧ ∀ k, J a w k → m ≤ k := fun a w ⟨m, hm⟩ => least m hm
    refine wp_loop (fun a w => ∃ m, J a w m) (fun a w => if h : ∃ m, J a w m then (lst a w h).choose else 0) ⟨m₀, ρ₀, hok.sub hs₀, hI₀⟩ ?_
    intro a w hex
    obtain ⟨ρ, hokr, hI⟩ := (lst a w hex).choose_spec.1
    refine wp_mono (den_sound c hc _ a ρ w _ hokr (round _ ρ w hI)) ?_
    intro e a' w' ⟨ρ', hok', hq⟩
    cases e with
    | normal =>
      obtain ⟨m', ρ₁, hlt, hs, hI'⟩ := hq
      have hex' : ∃ m, J a' w' m := ⟨m', ρ₁, hok'.sub hs, hI'⟩
      refine ⟨hex', ?_⟩
      simp only [dif_pos hex, dif_pos hex']
      exact Nat.lt_of_le_of_lt ((lst a' w' hex').choose_spec.2 m' ⟨ρ₁, hok'.sub hs, hI'⟩) hlt
    | _ => exact ⟨ρ', hok', hq⟩
  | .exit id, _, τ, a, ρ, w, Q, hok, h => wp_exit ⟨ρ, hok, h⟩
  | .ret, _, τ, a, ρ, w, Q, hok, h => wp_ret ⟨ρ, hok, h⟩
  | .rangeFunc .., _, τ, a, ρ, w, Q, hok, h => (h : RawK ..) a hok
  | .scope .., _, τ, a, ρ, w, Q, hok, h => (h : RawK ..) a hok
  | .label .., _, τ, a, ρ, w, Q, hok, h => (h : RawK ..) a hok
  | .goto .., _, τ, a, ρ, w, Q, hok, h => (h : RawK ..) a hok
  | .refuse .., _, τ, a, ρ, w, Q, hok, h => (h : RawK ..) a hok

/-! ### A function -/

def rgOf : Nat → List Value → Rg
  | _, [] => []
  | i, v :: r => (i, v) :: rgOf (i + 1) r

theorem fd_rgOf : ∀ (l : List Value) (i t : Nat) (v : Value), fd (rgOf i l) t = some v → i ≤ t ∧ l[t - i]? = some v
  | [], _, _, _, h => by simp [rgOf, fd] at h
  | x :: r, i, t, v, h => by
    simp only [rgOf, fd_cons] at h
    by_cases e : i = t
    · subst e; simp at h; subst h; simp
    · rw [if_neg e] at h
      obtain ⟨h1, h2⟩ := fd_rgOf r (i + 1) t v h
      refine ⟨by omega, ?_⟩
      rw [show t - i = (t - (i + 1)) + 1 by omega]
      simpa using h2

def packV : List Value → Value
  | [v] => v
  | vs => .tuple vs.toArray

def resultsK (P : Program) : List ResultVar → Rg → World → (List Value → Prop) → Prop
  | [], _, _, K => K []
  | .tmp t :: r, ρ, w, K => lk ρ t fun v => resultsK P r ρ w fun vs => K (v :: vs)
  | .cell t ty :: r, ρ, w, K => lk ρ t fun p => loadK P ty p w fun _ v _ => resultsK P r ρ w fun vs => K (v :: vs)

def resOne (tmps : Array Value) : ResultVar → Sem Value
  | .tmp t => pure (tmps.getD t undef)
  | .cell a t => do loadVar t (← asAddr (tmps.getD a undef))

theorem resultsK_sound {n : Nat} {P : Program} {a : Act} {ρ : Rg} {w : World} (hok : Ok n a ρ) : ∀ (rs : List ResultVar) (K : List Value → Prop), resultsK P rs ρ w K →
    ∃ vs, (rs.mapM (resOne a.tmps)).run P w = .ok vs w ∧ K vs
  | [], K, h => ⟨[], rfl, h⟩
  | .tmp t :: r, K, h => by
    have h1 := lk_sound hok h
    obtain ⟨vs, hr, hk⟩ := resultsK_sound hok r _ h1
    refine ⟨_, ?_, hk⟩
    rw [List.mapM_cons, Sem.run_bind, show (resOne a.tmps (.tmp t)).run P w = .ok (a.tmps.getD t undef) w from rfl]
    simp only [Result.andThen_ok, Sem.run_bind, hr]
    rfl
  | .cell t ty :: r, K, h => by
    obtain ⟨v, hl, h2⟩ := loadK_run (lk_sound hok h)
    obtain ⟨vs, hr, hk⟩ := resultsK_sound hok r _ h2
    refine ⟨_, ?_, hk⟩
    have e : (resOne a.tmps (.cell t ty)).run P w = .ok v w := by
      unfold Instr.loadAt at hl
      show (do loadVar ty (← asAddr (a.tmps.getD t undef))).run P w = _
      cases hp : a.tmps.getD t undef <;> rw [hp] at hl <;> first
        | (rename_i y; cases y <;> first | exact hl | cases hl)
        | cases hl
    rw [List.mapM_cons, Sem.run_bind, e]
    simp only [Result.andThen_ok, Sem.run_bind, hr]
    rfl

theorem packV_eq (vs : List Value) : (if h : vs.toArray.size = 1 then vs.toArray[0] else .tuple vs.toArray) = packV vs := by
  match vs with
  | [] => rfl
  | [v] => rfl
  | v :: u :: us => simp [packV]

def retQ (P : Program) (rs : List ResultVar) (R : Ending → World → Prop) : Post
  | _, .normal, ρ, w => resultsK P rs ρ w fun vs => R (.returned (packV vs)) w
  | _, .ret, ρ, w => resultsK P rs ρ w fun vs => R (.returned (packV vs)) w
  | _, _, _, _ => False

theorem results_of {n : Nat} {P : Program} {fn : Func} {a : Act} {ρ : Rg} {w : World} {R : Ending → World → Prop} (hok : Ok n a ρ)
    (h : resultsK P fn.results.toList ρ w fun vs => R (.returned (packV vs)) w) : ∃ v, (results fn a.tmps).run P w = .ok v w ∧ R (.returned v) w := by
  obtain ⟨vs, hr, hk⟩ := resultsK_sound hok _ _ h
  refine ⟨packV vs, ?_, hk⟩
  have e : results fn a.tmps = (do
      let vs ← fn.results.mapM (resOne a.tmps)
      pure (if h : vs.size = 1 then vs[0] else .tuple vs)) := by
    unfold results
    congr 1
  rw [e, ← Array.toArray_toList (xs := fn.results), List.mapM_toArray, Sem.run_bind, Sem.run_map, hr]
  simp only [Result.andThen_ok]
  rw [← packV_eq]
  rfl

theorem calls_den {P : Program} {f : FuncId} {fn : Func} {c : Code} {args : List Value} {w : World} {R : Ending → World → Prop}
    (hf : P.funcs[f]? = some fn) (hb : fn.body = some c) (hc : okC fn.ntmps c = true) (hs : args.length ≤ fn.ntmps)
    (h : den true P fn.ntmps c (rgOf 0 args) w (retQ P fn.results.toList R)) : Calls P f args.toArray w R := by
  refine calls_of_wp hf hb ?_
  have hok : Ok fn.ntmps { tmps := args.toArray ++ Array.replicate (fn.ntmps - args.toArray.size) undef, defers := [] } (rgOf 0 args) := by
    refine ⟨rfl, by simp; omega, fun t v hv => ?_⟩
    obtain ⟨_, h2⟩ := fd_rgOf _ _ _ _ hv
    simp only [Nat.sub_zero] at h2
    rw [Array.getElem?_append_left (by simpa using (List.getElem?_eq_some_iff.1 h2).1)]
    simpa using h2
  refine wp_mono (den_sound c hc _ _ _ w _ hok h) ?_
  intro e a w' ⟨ρ, hok', hq⟩
  cases e with
  | normal => exact ⟨hok'.defers, results_of hok' hq⟩
  | ret => exact ⟨hok'.defers, results_of hok' hq⟩
  | _ => exact hq.elim

end Go.Eng
