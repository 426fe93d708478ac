import Derived.Test.YthbcfjlalmhabaaOps
/-! More rules: worlds written out, fields, slices, calls, builtins. -/
namespace Go.Eng
set_option linter.unusedSimpArgs false
set_option linter.unusedVariables false

section
variable {P : Program} {n : Nat} {ρ : Rg} {w : World} {k : Kv} {g : Option (Nat × Bool)} {d : Option Nat} {ty t e s : TypeId} {pos : String} {af : Array Edge} {x y : Operand} {i : IntKind} {a b : Int}

/-! worlds written out: a cell of a block that is new, or of one ahead of it -/
@[go_sem ↓] theorem lstK_zero {v : Value} {C : List Value} {F : Bool → Value → Prop} : lstK (v :: C) 0 F = F true v := (rfl)
@[go_sem ↓] theorem lstK_succ {v : Value} {C : List Value} {j : Nat} {F : Bool → Value → Prop} : lstK (v :: C) (j + 1) F = lstK C j F := by simp [lstK]
@[go_sem ↓] theorem cellK_drew {c : Addr} {F : Bool → Value → Prop} : cellK w.drew c F = cellK w c F := (rfl)
@[go_sem ↓] theorem cellK_new {C : List Value} {m j : Nat} {F : Bool → Value → Prop} (hm : m = w.heap.size) : cellK (w.alloc (.cells C.toArray t)) ⟨m, j, none⟩ F = lstK C j F := by
  subst hm
  unfold cellK lstK
  rw [World.cell?_alloc_new]
  simp
@[go_sem ↓] theorem cellK_old {o : Obj} {m j : Nat} {F : Bool → Value → Prop} (hm : m < w.heap.size) : cellK (w.alloc o) ⟨m, j, none⟩ F = cellK w ⟨m, j, none⟩ F := by
  unfold cellK
  rw [World.cell?_alloc_lt _ _ _ hm]
theorem readC_congr {w' : World} {m : Nat} (h : ∀ j, w'.cell? ⟨m, j, none⟩ = w.cell? ⟨m, j, none⟩) : ∀ n o, readC w' m o n = readC w m o n
  | 0, _ => rfl
  | n + 1, o => by simp only [readC, h, readC_congr h n]
@[go_sem ↓] theorem cellsK_drew {c : Addr} {F : Bool → List Value → Prop} : cellsK w.drew c n F = cellsK w c n F := by
  unfold cellsK
  rw [readC_congr (w := w) (w' := w.drew) (fun j => rfl)]
@[go_sem ↓] theorem cellsK_new {C : List Value} {m : Nat} {F : Bool → List Value → Prop} (hm : m = w.heap.size) (hn : n = C.length) : cellsK (w.alloc (.cells C.toArray t)) ⟨m, 0, none⟩ n F = F true C := by
  subst hm
  exact cellsK_of (fun j hj => by rw [Nat.zero_add]; exact (Blk.new w C t).cell (by simp)) hn
@[go_sem ↓] theorem cellsK_old {o : Obj} {m j : Nat} {F : Bool → List Value → Prop} (hm : m < w.heap.size) : cellsK (w.alloc o) ⟨m, j, none⟩ n F = cellsK w ⟨m, j, none⟩ n F := by
  unfold cellsK
  rw [readC_congr (w := w) (w' := w.alloc o) (fun j => World.cell?_alloc_lt _ _ _ hm)]
theorem stK_new {C : List Value} {m j : Nat} {v : Value} {K : Bool → World → Prop} (hm : m = w.heap.size) (hj : j < C.length) (hv : oneC v = true) : stK (w.alloc (.cells C.toArray t)) ⟨m, j, none⟩ v K = K true (w.alloc (.cells (C.set j v).toArray t)) := by
  subst hm
  rw [stK_blk (Blk.new w C t) hj hv, setB_alloc_new]
theorem stsK_new {C vs : List Value} {m j : Nat} {K : Bool → World → Prop} (hm : m = w.heap.size) (hj : j + vs.length ≤ C.length) (hv : ∀ v ∈ vs, oneC v = true) : stsK (w.alloc (.cells C.toArray t)) ⟨m, j, none⟩ vs K = K true (w.alloc (.cells (setL C j vs).toArray t)) := by
  subst hm
  rw [stsK_blk vs _ j C (Blk.new w C t) hj hv, setB_alloc_new]
  split
  · rename_i h; subst h; simp [setL]
  · rfl
theorem frozen_old {o : Obj} {m j : Nat} (hm : m < w.heap.size) : (w.alloc o).frozen? ⟨m, j, none⟩ = w.frozen? ⟨m, j, none⟩ := World.frozen?_alloc_old _ _ _ (Nat.ne_of_lt hm)
theorem setCell_old {o : Obj} {m j : Nat} {v : Value} (hm : m < w.heap.size) : (w.alloc o).setCell ⟨m, j, none⟩ v = (w.setCell ⟨m, j, none⟩ v).alloc o := by
  unfold World.setCell World.alloc
  congr 1
  apply Array.ext
  · simp
  · intro q h1 h2
    simp only [Array.getElem_modify]
    simp at h2
    by_cases hq : q < w.heap.size
    · rw [Array.getElem_push_lt hq, Array.getElem_push_lt (by simpa using hq), Array.getElem_modify]
    · have : q = w.heap.size := by omega
      subst this
      rw [if_neg (by omega), Array.getElem_push, Array.getElem_push, dif_neg (by omega), dif_neg (by simp)]
@[go_sem ↓] theorem stK_old {o : Obj} {m j : Nat} {v : Value} {K : Bool → World → Prop} (hm : m < w.heap.size) : stK (w.alloc o) ⟨m, j, none⟩ v K = stK w ⟨m, j, none⟩ v fun τ w' => K τ (w'.alloc o) := by
  unfold stK
  rw [World.cell?_alloc_lt _ _ _ hm, frozen_old hm, setCell_old hm]
@[go_sem ↓] theorem stK_drew {c : Addr} {v : Value} {K : Bool → World → Prop} : stK w.drew c v K = stK w c v fun τ w' => K τ w'.drew := (rfl)
@[go_sem ↓] theorem stsK_old {o : Obj} {m : Nat} : ∀ (vs : List Value) (w : World) (j : Nat) (K : Bool → World → Prop), m < w.heap.size → stsK (w.alloc o) ⟨m, j, none⟩ vs K = stsK w ⟨m, j, none⟩ vs fun τ w' => K τ (w'.alloc o)
  | [], _, _, _, _ => rfl
  | v :: vs, w, j, K, hm => by
    simp only [stsK, addr_add, stK_old hm]
    unfold stK
    split
    · split
      · rfl
      · dsimp only
        rw [stsK_old vs _ (j + 1) K (by simpa using hm)]
    · rfl
theorem stsK_drew : ∀ (vs : List Value) (w : World) (c : Addr) (K : Bool → World → Prop), stsK w.drew c vs K = stsK w c vs fun τ w' => K τ w'.drew
  | [], _, _, _ => rfl
  | v :: vs, w, c, K => by
    simp only [stsK, stK_drew]
    congr 1
    funext _ w'
    exact stsK_drew vs w' _ K
attribute [go_sem ↓] stsK_drew
theorem setL_all : ∀ (C vs : List Value), vs.length = C.length → setL C 0 vs = vs := fun C vs h => by
  apply List.ext_getElem?
  intro j
  rw [setL_get vs C 0 j (by omega)]
  by_cases hj : j < vs.length
  · rw [if_pos (by omega)]; simp
  · rw [if_neg (by omega), List.getElem?_eq_none (by omega), List.getElem?_eq_none (by omega)]
theorem stsK_all {C vs : List Value} {m : Nat} {K : Bool → World → Prop} (hm : m = w.heap.size) (hj : vs.length = C.length) (hv : ∀ v ∈ vs, oneC v = true) : stsK (w.alloc (.cells C.toArray t)) ⟨m, 0, none⟩ vs K = K true (w.alloc (.cells vs.toArray t)) := by
  rw [stsK_new hm (by omega) hv, setL_all C vs (by omega)]
@[go_sem ↓] theorem stK_new_int {C : List Value} {m j : Nat} {K : Bool → World → Prop} (hm : m = w.heap.size) (hj : j < C.length) : stK (w.alloc (.cells C.toArray t)) ⟨m, j, none⟩ (.int i a) K = K true (w.alloc (.cells (C.set j (.int i a)).toArray t)) := stK_new hm hj rfl
@[go_sem ↓] theorem stK_new_bool {C : List Value} {m j : Nat} {u : Bool} {K : Bool → World → Prop} (hm : m = w.heap.size) (hj : j < C.length) : stK (w.alloc (.cells C.toArray t)) ⟨m, j, none⟩ (.bool u) K = K true (w.alloc (.cells (C.set j (.bool u)).toArray t)) := stK_new hm hj rfl
@[go_sem ↓] theorem stK_new_slice {C : List Value} {m j l c : Nat} {u : Option Addr} {K : Bool → World → Prop} (hm : m = w.heap.size) (hj : j < C.length) : stK (w.alloc (.cells C.toArray t)) ⟨m, j, none⟩ (.slice u l c) K = K true (w.alloc (.cells (C.set j (.slice u l c)).toArray t)) := stK_new hm hj rfl
@[go_sem ↓] theorem stK_new_pointer {C : List Value} {m j : Nat} {u : Option Addr} {K : Bool → World → Prop} (hm : m = w.heap.size) (hj : j < C.length) : stK (w.alloc (.cells C.toArray t)) ⟨m, j, none⟩ (.pointer u) K = K true (w.alloc (.cells (C.set j (.pointer u)).toArray t)) := stK_new hm hj rfl
@[go_sem ↓] theorem stK_new_func {C : List Value} {m j : Nat} {f : Fn} {u v : Array Value} {K : Bool → World → Prop} (hm : m = w.heap.size) (hj : j < C.length) : stK (w.alloc (.cells C.toArray t)) ⟨m, j, none⟩ (.func f u v) K = K true (w.alloc (.cells (C.set j (.func f u v)).toArray t)) := stK_new hm hj rfl

/-! pointers, fields -/
def ncK (v : Value) (w : World) (k : Kv) : Prop := match v with | .pointer (some a) => k true (.pointer (some a)) w | .func (.func f) l c => k true (.func (.func f) l c) w | _ => False
@[go_sem ↓] theorem opK_nilCheck : opK true P ⟨d, .nilCheck x, ty, pos, af, g⟩ ρ w k = evK ρ x fun v => ncK v w k := (rfl)
@[go_sem ↓] theorem ncK_ptr {c : Addr} : ncK (.pointer (some c)) w k = k true (.pointer (some c)) w := (rfl)
@[go_sem ↓] theorem ncK_func {f : Nat} {u v : Array Value} : ncK (.func (.func f) u v) w k = k true (.func (.func f) u v) w := (rfl)
def fadK (P : Program) (t : TypeId) (v : Value) (j : Nat) (w : World) (k : Kv) : Prop := runK P (Instr.fieldAt t v j) w (k true)
@[go_sem ↓] theorem opK_fieldAddr {j : Nat} : opK true P ⟨d, .fieldAddr t x j, ty, pos, af, g⟩ ρ w k = evK ρ x fun v => fadK P t v j w k := (rfl)
theorem fadK_of {fs : Array Field} {f : Field} {z o b' j : Nat} (ht : P.underlying t = some (.struct fs)) (hf : fs[j]? = some f) (hz : szOf P f.type = some (z + 1)) (ho : f.offset = o) {c : Nat} :
    fadK P t (.pointer (some ⟨b', c, none⟩)) j w k = k true (.pointer (some ⟨b', c + o, none⟩)) w := by
  subst ho
  unfold fadK runK Instr.fieldAt
  simp only [Sem.run_bind, run_underlying ht, Result.andThen_ok, hf, Instr.sureAddr, pure_bind, fieldPlace, run_sizeOf hz]
  simp [Sem.run, pure, resK, addr_add]
def fldK (P : Program) (t : TypeId) (v : Value) (j : Nat) (w : World) (k : Kv) : Prop := runK P (Instr.field t v j) w (k true)
@[go_sem ↓] theorem opK_field {j : Nat} : opK true P ⟨d, .field t x j, ty, pos, af, g⟩ ρ w k = evK ρ x fun v => fldK P t v j w k := (rfl)
def ixvK (P : Program) (t : TypeId) (v u : Value) (w : World) (k : Kv) : Prop := runK P (Instr.index t v u) w (k true)
@[go_sem ↓] theorem opK_index : opK true P ⟨d, .index t x y, ty, pos, af, g⟩ ρ w k = evK ρ x fun v => evK ρ y fun u => ixvK P t v u w k := (rfl)
theorem ixvK_of {C : List Value} {N : Nat} {f : TypeDesc} (ht : P.underlying t = some (.array N e)) (he : P.underlying e = some f) (hf : aggD f = false) (hz : szOf P e = some 1) (h : 0 ≤ a ∧ a < N) (hC : C.length = N) :
    ixvK P t (.agg C.toArray) (.int i a) w k = lstK C a.toNat fun τ v => k τ v w := by
  unfold ixvK runK Instr.index lstK
  simp only [asIntOf, pure_bind, Sem.run_bind, run_underlying ht, Result.andThen_ok, if_pos h, run_sizeOf hz, part, run_isAgg he, hf, Bool.false_eq_true, if_false]
  simp only [Nat.mul_one, List.getElem?_toArray]
  rw [List.getElem?_eq_getElem (by omega)]
  rfl
def extK (v : Value) (j : Nat) (w : World) (k : Kv) : Prop := match v with | .tuple vs => (match vs[j]? with | some u => k true u w | none => False) | _ => False
theorem extK_eq {v : Value} {j : Nat} : runK P (Instr.extract v j) w (k true) = extK v j w k := by
  unfold runK Instr.extract extK
  cases v with
  | tuple vs =>
    simp only
    cases h : vs[j]? <;> simp [Sem.run, pure, resK, stuck]
  | _ => simp [Sem.run, stuck, resK]
@[go_sem ↓] theorem opK_extract {j : Nat} : opK true P ⟨d, .extract x j, ty, pos, af, g⟩ ρ w k = evK ρ x fun v => extK v j w k := by
  show (evK ρ x fun t => runK P (Instr.extract t j) w (k true)) = _
  simp only [extK_eq]
@[go_sem ↓] theorem extK_of {vs : List Value} {j : Nat} : extK (.tuple vs.toArray) j w k = lstK vs j fun τ v => k τ v w := by
  unfold extK lstK
  simp only [List.getElem?_toArray]
  cases vs[j]? <;> rfl

/-! slices -/
def slcK (P : Program) (t : TypeId) (v : Value) (lo hi mx : Option Value) (w : World) (k : Kv) : Prop := runK P (Instr.sliceAt t v lo hi mx) w (k true)
@[go_sem ↓] theorem opK_slice {lo hi mx : Option Operand} : opK true P ⟨d, .slice t x lo hi mx, ty, pos, af, g⟩ ρ w k = evK ρ x fun v => evoK ρ lo fun lo => evoK ρ hi fun hi => evoK ρ mx fun mx => slcK P t v lo hi mx w k := (rfl)
theorem slcK_gen {u : Option Addr} {len cap z : Nat} {lo hi mx : Option Value} (ht : P.underlying t = some (.slice e)) (hz : szOf P e = some z) {l h m : Nat} (hr : ∀ w, (Instr.sliceBounds true len cap lo hi mx).run P w = .ok (l, h, m) w) :
    slcK P t (.slice u len cap) lo hi mx w k = k true (.slice (if m = l then u else u.map (·.add (l * z))) (h - l) (m - l)) w := by
  unfold slcK runK Instr.sliceAt Instr.slice
  simp only [Sem.run_bind, run_underlying ht, Result.andThen_ok, hr, run_sizeOf hz]
  rfl
theorem run_sliceBound {v : Int} {m : Nat} {c : BoundsCode} (h : 0 ≤ v ∧ v ≤ m) (w : World) : (Instr.sliceBound (.int i v) m c).run P w = .ok v.toNat w := by
  unfold Instr.sliceBound
  simp only [asIntOf, pure_bind, if_pos h]
  rfl
theorem slcK_to {u : Option Addr} {len cap z : Nat} (ht : P.underlying t = some (.slice e)) (hz : szOf P e = some z) (h : 0 ≤ a ∧ a ≤ cap) :
    slcK P t (.slice u len cap) none (some (.int i a)) none w k = k true (.slice u a.toNat cap) w := by
  have e : (if cap = 0 then u else u.map (·.add (0 * z))) = u := by
    split
    · rfl
    · rw [Nat.zero_mul]
      show u.map (fun c => c) = u
      simp
  rw [slcK_gen ht hz (l := 0) (h := a.toNat) (m := cap) (fun w => by
    unfold Instr.sliceBounds
    simp only [pure_bind, Sem.run_bind, run_sliceBound h, Result.andThen_ok]
    rfl), e]
  simp
theorem slcK_toto {u : Option Addr} {len cap z : Nat} {i' : IntKind} (ht : P.underlying t = some (.slice e)) (hz : szOf P e = some z) (h : 0 ≤ a ∧ a ≤ b ∧ b ≤ cap) :
    slcK P t (.slice u len cap) none (some (.int i a)) (some (.int i' b)) w k = k true (.slice u a.toNat b.toNat) w := by
  have e : (if b.toNat = 0 then u else u.map (·.add (0 * z))) = u := by
    split
    · rfl
    · rw [Nat.zero_mul]
      show u.map (fun c => c) = u
      simp
  rw [slcK_gen ht hz (l := 0) (h := a.toNat) (m := b.toNat) (fun w => by
    unfold Instr.sliceBounds
    simp only [pure_bind, Sem.run_bind]
    rw [run_sliceBound (by omega), Result.andThen_ok, run_sliceBound (by omega)]
    rfl), e]
  simp
/-- The address behind some elements: the old one where there is no room behind. -/
def behind (u : Option Addr) (l m z : Nat) : Option Addr := if m = l then u else u.map (·.add (l * z))
theorem slcK_from {u : Option Addr} {len cap z : Nat} (ht : P.underlying t = some (.slice e)) (hz : szOf P e = some z) (h : 0 ≤ a ∧ a ≤ len) :
    slcK P t (.slice u len cap) (some (.int i a)) none none w k = k true (.slice (behind u a.toNat cap z) (len - a.toNat) (cap - a.toNat)) w := by
  rw [slcK_gen ht hz (l := a.toNat) (h := len) (m := cap) (fun w => by
    unfold Instr.sliceBounds
    simp only [pure_bind, Sem.run_bind, run_sliceBound h, Result.andThen_ok]
    rfl)]
  rfl
theorem slcK_fromto {u : Option Addr} {len cap z : Nat} {i' : IntKind} (ht : P.underlying t = some (.slice e)) (hz : szOf P e = some z) (h : 0 ≤ a ∧ a ≤ b ∧ b ≤ cap) :
    slcK P t (.slice u len cap) (some (.int i a)) (some (.int i' b)) none w k = k true (.slice (behind u a.toNat cap z) (b.toNat - a.toNat) (cap - a.toNat)) w := by
  rw [slcK_gen ht hz (l := a.toNat) (h := b.toNat) (m := cap) (fun w => by
    unfold Instr.sliceBounds
    simp only [pure_bind, Sem.run_bind]
    rw [run_sliceBound (by omega), Result.andThen_ok, run_sliceBound (by omega)]
    rfl)]
  rfl

/-! functions -/
def mkfK (fn : Fn) (first captured : List Value) (w : World) (k : Kv) : Prop := k true (.func fn first.toArray captured.toArray) w
@[go_sem ↓] theorem opK_makeFunc {fn : Fn} {f c : List Operand} : opK true P ⟨d, .makeFunc fn f.toArray c.toArray, ty, pos, af, g⟩ ρ w k = evsK ρ f fun f => evsK ρ c fun c => k true (.func fn f.toArray c.toArray) w := (rfl)
def calK (P : Program) (f : Value) (args : List Value) (w : World) (k : Kv) : Prop := match f with | .func (.func g) first captured => callK P g (first ++ args.toArray ++ captured) w k | _ => False
@[go_sem ↓] theorem opK_call {xs : List Operand} {ats : Array TypeId} {f : Operand} : opK true P ⟨d, .call { callee := .value f, args := xs.toArray, argTypes := ats }, ty, pos, af, g⟩ ρ w k = evK ρ f fun f => evsK ρ xs fun args => calK P f args w k := (rfl)
/-- A call of a function, its arguments as a list. -/
def cllK (P : Program) (f : FuncId) (args : List Value) (w : World) (k : Kv) : Prop := callK P f args.toArray w k
@[go_sem ↓] theorem calK_plain {f : Nat} {args : List Value} : calK P (.func (.func f) #[] #[]) args w k = cllK P f args w k := by simp [calK, cllK]
@[go_sem ↓] theorem calK_list {f : Nat} {args l c : List Value} : calK P (.func (.func f) l.toArray c.toArray) args w k = cllK P f (l ++ args ++ c) w k := by simp [calK, cllK]

/-- What a call returns, and the world behind. -/
def Rets (P : Program) (f : FuncId) (args : List Value) (w : World) (R : Value → World → Prop) : Prop := Calls P f args.toArray w fun e w' => ∃ v, e = .returned v ∧ R v w'
theorem Rets.mono {f : FuncId} {args : List Value} {R R' : Value → World → Prop} (h : Rets P f args w R) (hr : ∀ v w', R v w' → R' v w') : Rets P f args w R' :=
  Calls.mono h fun _ _ ⟨v, he, hv⟩ => ⟨v, he, hr _ _ hv⟩
theorem cllK_of {f : FuncId} {args : List Value} {R : Value → World → Prop} (hc : ∀ (args : Array Value) (w : World), (callFunc f args).run P w = .ok (.enter f args) w) (h : Rets P f args w R) (hk : ∀ v w', R v w' → k true v w') : cllK P f args w k := by
  unfold cllK callK runK
  rw [hc]
  exact Calls.mono h fun _ _ ⟨v, he, hv⟩ => ⟨v, he, hk _ _ hv⟩

def retV (P : Program) (rs : List ResultVar) (R : Value → World → Prop) : Post
  | _, .normal, ρ, w => resultsK P rs ρ w fun vs => R (packV vs) w
  | _, .ret, ρ, w => resultsK P rs ρ w fun vs => R (packV vs) w
  | _, _, _, _ => False
@[go_sem ↓] theorem retV_normal {rs : List ResultVar} {R : Value → World → Prop} : retV P rs R true .normal ρ w = resultsK P rs ρ w fun vs => R (packV vs) w := (rfl)
@[go_sem ↓] theorem retV_ret {rs : List ResultVar} {R : Value → World → Prop} : retV P rs R true .ret ρ w = resultsK P rs ρ w fun vs => R (packV vs) w := (rfl)
theorem loadK_mono {v : Value} {K K' : Kv} (h : ∀ u, K true u w → K' true u w) (hk : loadK P t v w K) : loadK P t v w K' := by
  cases v with
  | pointer q =>
    cases q with
    | none => exact hk
    | some q =>
      unfold loadK at *
      simp only at *
      cases hu : P.underlying t with
      | none => rw [hu] at hk; exact hk
      | some dd =>
        rw [hu] at hk
        simp only at *
        cases hg : aggD dd with
        | true =>
          rw [hg] at hk
          simp only [cond_true] at *
          cases hs : szOf P t with
          | none => rw [hs] at hk; exact hk
          | some z =>
            rw [hs] at hk
            unfold cellsK at *
            cases hsp : q.spot with
            | some _ => rw [hsp] at hk; exact hk
            | none =>
              rw [hsp] at hk
              simp only at *
              cases hr : readC w q.block q.off z with
              | none => rw [hr] at hk; exact hk
              | some cs => rw [hr] at hk; exact h _ hk
        | false =>
          rw [hg] at hk
          simp only [cond_false] at *
          unfold cellK at *
          cases hc : w.cell? q with
          | none => rw [hc] at hk; exact hk
          | some u => rw [hc] at hk; exact h _ hk
  | _ => exact hk
theorem lk_mono {K K' : Value → Prop} {m : Nat} (h : ∀ u, K u → K' u) (hk : lk ρ m K) : lk ρ m K' := by
  unfold lk at *
  cases hf : fd ρ m with
  | none => rw [hf] at hk; exact hk
  | some v => rw [hf] at hk; exact h _ hk
theorem resultsK_mono : ∀ {rs : List ResultVar} {K K' : List Value → Prop}, (∀ vs, K vs → K' vs) → resultsK P rs ρ w K → resultsK P rs ρ w K'
  | [], _, _, h, hk => h _ hk
  | .tmp t :: r, K, K', h, hk => lk_mono (fun u hu => resultsK_mono (fun vs => h (u :: vs)) hu) hk
  | .cell t ty :: r, K, K', h, hk => lk_mono (fun p hp => loadK_mono (fun u hu => resultsK_mono (fun vs => h (u :: vs)) hu) hp) hk
theorem rets_den {f : FuncId} {fn : Func} {c : Code} {args : List Value} {R : Value → World → Prop}
    (hf : P.funcs[f]? = some fn) (hb : fn.body = some c) (hc : okC fn.ntmps c = true) (hs : Nat.ble args.length fn.ntmps = true) (rs : List ResultVar) (hr : fn.results.toList = rs)
    (h : den true P fn.ntmps c (rgOf 0 args) w (retV P rs R)) : Rets P f args w R := by
  subst hr
  refine calls_den hf hb hc (Nat.le_of_ble_eq_true hs) ?_
  have e : retV P fn.results.toList R = retQ P fn.results.toList fun e w' => ∃ v, e = .returned v ∧ R v w' := by
    funext τ x ρ w
    cases x <;> first
      | rfl
      | exact propext ⟨resultsK_mono fun vs hv => ⟨_, rfl, hv⟩, resultsK_mono fun vs ⟨v, he, hv⟩ => by cases he; exact hv⟩
  rw [← e]
  exact h

/-! builtins -/
@[go_sem ↓] theorem bltK_min2 {ats : Array TypeId} {cs : Array Bool} {i' : IntKind} : bltK P .min ats ty cs [.int i a, .int i' b] w k = k true (.int i (min a b)) w := by
  have e : (if b < a then b else a) = min a b := by rw [Int.min_def]; split <;> split <;> omega
  rw [← e]; rfl
@[go_sem ↓] theorem bltK_max2 {ats : Array TypeId} {cs : Array Bool} {i' : IntKind} : bltK P .max ats ty cs [.int i a, .int i' b] w k = k true (.int i (max a b)) w := by
  have e : (if b > a then b else a) = max a b := by rw [Int.max_def]; split <;> split <;> omega
  rw [← e]; rfl
@[go_sem ↓] theorem bltK_min3 {ats : Array TypeId} {cs : Array Bool} {i' i'' : IntKind} {c : Int} : bltK P .min ats ty cs [.int i a, .int i' b, .int i'' c] w k = k true (.int i (min (min a b) c)) w := by
  have e : ∀ a b : Int, (if b < a then b else a) = min a b := fun a b => by rw [Int.min_def]; split <;> split <;> omega
  rw [← e, ← e]; rfl
@[go_sem ↓] theorem bltK_min4 {ats : Array TypeId} {cs : Array Bool} {i' i'' i3 : IntKind} {c q : Int} : bltK P .min ats ty cs [.int i a, .int i' b, .int i'' c, .int i3 q] w k = k true (.int i (min (min (min a b) c) q)) w := by
  have e : ∀ a b : Int, (if b < a then b else a) = min a b := fun a b => by rw [Int.min_def]; split <;> split <;> omega
  rw [← e, ← e, ← e]; rfl
end
end Go.Eng
