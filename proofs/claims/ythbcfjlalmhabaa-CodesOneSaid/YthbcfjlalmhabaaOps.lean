import Derived.Test.YthbcfjlalmhabaaMem
/-! Rules for operations on memory, and for calls. -/
namespace Go.Eng
set_option linter.unusedSimpArgs false
set_option linter.unusedVariables false

section
variable {P : Program} {n : Nat} {ρ : Rg} {w : World} {k : Kv} {g : Option (Nat × Bool)} {d : Option Nat} {ty t e s : TypeId} {pos : String} {af : Array Edge} {x y : Operand}

/-! new variables -/
def allocK (P : Program) (t : TypeId) (w : World) (k : Kv) : Prop := runK P (Instr.alloc t true (.tuple #[])) w (k true)
@[go_sem ↓] theorem opK_alloc : opK true P ⟨d, .alloc t, ty, pos, af, g⟩ ρ w k = allocK P t w k := (rfl)
theorem allocK_of {C : List Value} (h : zeOf P t = some C) : allocK P t w k = k true (.pointer (some ⟨w.heap.size, 0, none⟩)) (w.alloc (.cells C.toArray t)) := by
  unfold zeOf at h
  cases hz : (P.info? t).bind (·.zero) with
  | none => rw [hz] at h; cases h
  | some v =>
    rw [hz] at h
    simp at h
    subst h
    unfold allocK runK Instr.alloc
    rw [Sem.run_bind, run_zero hz, Result.andThen_ok]
    simp [newVar, newRow, newObj, Sem.run, pure, resK]
def boxK (P : Program) (t : TypeId) (v : Value) (w : World) (k : Kv) : Prop := runK P (Instr.box t v) w (k true)
@[go_sem ↓] theorem opK_box : opK true P ⟨d, .box t x, ty, pos, af, g⟩ ρ w k = evK ρ x fun v => boxK P t v w k := (rfl)
theorem boxK_eq {v : Value} : boxK P t v w k = k true (.pointer (some ⟨w.heap.size, 0, none⟩)) (w.alloc (.cells v.cells t)) := rfl
@[go_sem ↓] theorem boxK_int {i : IntKind} {a : Int} : boxK P t (.int i a) w k = k true (.pointer (some ⟨w.heap.size, 0, none⟩)) (w.alloc (.cells [Value.int i a].toArray t)) := (rfl)
@[go_sem ↓] theorem boxK_bool {b : Bool} : boxK P t (.bool b) w k = k true (.pointer (some ⟨w.heap.size, 0, none⟩)) (w.alloc (.cells [Value.bool b].toArray t)) := (rfl)
@[go_sem ↓] theorem boxK_slice {a : Option Addr} {l c : Nat} : boxK P t (.slice a l c) w k = k true (.pointer (some ⟨w.heap.size, 0, none⟩)) (w.alloc (.cells [Value.slice a l c].toArray t)) := (rfl)
@[go_sem ↓] theorem boxK_pointer {a : Option Addr} : boxK P t (.pointer a) w k = k true (.pointer (some ⟨w.heap.size, 0, none⟩)) (w.alloc (.cells [Value.pointer a].toArray t)) := (rfl)
@[go_sem ↓] theorem boxK_func {f : Fn} {l c : Array Value} : boxK P t (.func f l c) w k = k true (.pointer (some ⟨w.heap.size, 0, none⟩)) (w.alloc (.cells [Value.func f l c].toArray t)) := (rfl)
@[go_sem ↓] theorem boxK_agg {c : List Value} : boxK P t (.agg c.toArray) w k = k true (.pointer (some ⟨w.heap.size, 0, none⟩)) (w.alloc (.cells c.toArray t)) := (rfl)

/-! composite values -/
def bldK (P : Program) (t : TypeId) (ps : List (Nat × Value)) (w : World) (k : Kv) : Prop := runK P (Instr.build t ps.toArray) w (k true)
@[go_sem ↓] theorem opK_build {ps : List (Nat × Operand)} : opK true P ⟨d, .build t ps.toArray, ty, pos, af, g⟩ ρ w k = evpK ρ ps fun vs => bldK P t vs w k := (rfl)
def bslK (P : Program) (t : TypeId) (n : Nat) (ps : List (Nat × Value)) (w : World) (k : Kv) : Prop := runK P (Instr.buildSlice t n ps.toArray) w (k true)
@[go_sem ↓] theorem opK_buildSlice {ps : List (Nat × Operand)} {n : Nat} : opK true P ⟨d, .buildSlice t n ps.toArray, ty, pos, af, g⟩ ρ w k = evpK ρ ps fun vs => bslK P t n vs w k := (rfl)
/-- Values, numbered. -/
def numb : Nat → List Value → List (Nat × Value)
  | _, [] => []
  | j, v :: vs => (j, v) :: numb (j + 1) vs
theorem one_fold (v : Value) (o : Nat) (C : Array Value) : ((#[v] : Array Value).zipIdx.foldl (fun cs (c, j) => cs.setIfInBounds (o + j) c) C) = C.setIfInBounds o v := by
  simp [Array.zipIdx]
theorem fill_one : ∀ (xs : List Value) (j : Nat) (C : Array Value), (∀ v ∈ xs, oneC v = true) → j + xs.length = C.size →
    Instr.fill (fun i => some (i * 1, 1)) C (numb j xs) = some ((C.toList.take j ++ xs).toArray)
  | [], j, C, _, hl => by
    have : C.toList.take j = C.toList := List.take_of_length_le (by simp at hl ⊢; omega)
    simp [Instr.fill, numb, this]
  | v :: xs, j, C, ho, hl => by
    simp only [List.length_cons] at hl
    have hv := cells_one (ho v (by simp))
    have ih := fill_one xs (j + 1) (C.setIfInBounds j v) (fun u hu => ho u (by simp [hu])) (by simp; omega)
    simp only [numb, Instr.fill]
    rw [hv, if_neg (by simp; omega), one_fold, Nat.mul_one, ih]
    have hj : j < C.toList.length := by simp; omega
    simp only [Array.toList_setIfInBounds, Option.some.injEq]
    congr 1
    rw [List.take_succ_eq_append_getElem (by simp; omega)]
    simp [List.take_set_of_le]
theorem bslK_one {xs : List Value} (ht : P.underlying t = some (.slice e)) (hz : szOf P e = some 1) (hze : (zeOf P e).isSome = true) (ho : ∀ v ∈ xs, oneC v = true) (hn : xs.length ≤ 16777216) :
    bslK P t xs.length (numb 0 xs) w k = k true (.slice (some ⟨w.heap.size, 0, none⟩) xs.length xs.length) (w.alloc (.cells xs.toArray e)) := by
  unfold zeOf at hze
  obtain ⟨C, hC⟩ := Option.isSome_iff_exists.1 hze
  cases hzz : (P.info? e).bind (·.zero) with
  | none => rw [hzz] at hC; cases hC
  | some v =>
    unfold bslK runK Instr.buildSlice
    rw [Sem.run_bind, run_underlying ht, Result.andThen_ok]
    simp only [Sem.run_bind, run_sizeOf hz, Result.andThen_ok]
    rw [if_neg (by omega)]
    have key : ∀ Z : Array Value, Instr.fill (fun i => some (i * 1, 1)) ((Array.range (xs.length * 1)).map fun i => Z[i % Z.size]!) (numb 0 xs).toArray.toList = some xs.toArray := fun Z => by
      have := fill_one xs 0 ((Array.range (xs.length * 1)).map fun i => Z[i % Z.size]!) ho (by simp)
      simpa using this
    by_cases h0 : xs.length * 1 = 0
    · rw [if_pos h0]
      simp only [pure_bind]
      rw [key]
      simp [newRow, newObj, Sem.run, pure, resK]
    · rw [if_neg h0]
      simp only [Sem.run_bind, run_zero hzz, Result.andThen_ok, pure_bind, bind_assoc]
      rw [key]
      simp [newRow, newObj, Sem.run, pure, resK]

end
end Go.Eng
