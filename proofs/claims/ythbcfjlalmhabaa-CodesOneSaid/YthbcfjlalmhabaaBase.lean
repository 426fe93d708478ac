import Derived.StillTail
import Derived.OrdersHeld
import Derived.Laws.Sem
/-! Worlds: what has changed from one to another; blocks, cells, rows of cells; types. -/
namespace Go.Eng
set_option linter.unusedSimpArgs false
set_option linter.unusedVariables false

def oneC : Value → Bool
  | .agg _ | .tuple _ => false
  | _ => true

/-- A call's frame: of the blocks that were there only those of 'M' may have changed. -/
structure Ext (M : List Nat) (w w' : World) : Prop where
  os : w'.os = w.os
  tape : w'.tape = w.tape
  output : w'.output = w.output
  size : w.heap.size ≤ w'.heap.size
  block : ∀ b, b < w.heap.size → b ∉ M → w'.heap[b]? = w.heap[b]?

theorem Ext.refl (M : List Nat) (w : World) : Ext M w w := ⟨rfl, rfl, rfl, Nat.le_refl _, fun _ _ _ => rfl⟩
theorem Ext.trans {M N : List Nat} {a b c : World} (h : Ext M a b) (k : Ext N b c) (hN : ∀ x ∈ N, x ∈ M ∨ a.heap.size ≤ x) : Ext M a c :=
  ⟨k.os.trans h.os, k.tape.trans h.tape, k.output.trans h.output, Nat.le_trans h.size k.size, fun x hx hm => by
    rw [k.block x (Nat.lt_of_lt_of_le hx h.size) (fun hn => (hN x hn).elim hm (fun h1 => absurd h1 (by omega))), h.block x hx hm]⟩
theorem Ext.trans' {M : List Nat} {a b c : World} (h : Ext M a b) (k : Ext [] b c) : Ext M a c := h.trans k (fun _ h => by cases h)
theorem Ext.mono {M N : List Nat} {a b : World} (h : Ext M a b) (hN : ∀ x ∈ M, x ∈ N ∨ a.heap.size ≤ x) : Ext N a b :=
  ⟨h.os, h.tape, h.output, h.size, fun x hx hn => h.block x hx (fun hm => (hN x hm).elim hn (fun h1 => absurd h1 (by omega)))⟩
theorem Ext.drew {M : List Nat} {a b : World} (h : Ext M a b) : Ext M a b.drew := ⟨h.os, h.tape, h.output, h.size, h.block⟩
theorem heap_alloc_lt (w : World) (o : Obj) (k : Nat) (h : k < w.heap.size) : (w.alloc o).heap[k]? = w.heap[k]? := by
  show (w.heap.push o)[k]? = _
  rw [Array.getElem?_push, if_neg (by omega)]
theorem heap_alloc_new (w : World) (o : Obj) : (w.alloc o).heap[w.heap.size]? = some o := by
  show (w.heap.push o)[w.heap.size]? = _
  rw [Array.getElem?_push, if_pos rfl]
theorem Ext.alloc {M : List Nat} {a b : World} (h : Ext M a b) (o : Obj) : Ext M a (b.alloc o) :=
  ⟨h.os, h.tape, h.output, by simp; have := h.size; omega, fun x hx hm => by rw [heap_alloc_lt _ _ _ (Nat.lt_of_lt_of_le hx h.size)]; exact h.block x hx hm⟩
theorem Ext.below {w w' : World} (h : Ext [] w w') : w'.os = w.os ∧ w'.tape = w.tape ∧ w'.output = w.output ∧ w.heap.size ≤ w'.heap.size ∧ ∀ k, k < w.heap.size → w'.heap[k]? = w.heap[k]? :=
  ⟨h.os, h.tape, h.output, h.size, fun k hk => h.block k hk (by simp)⟩

/-- A block of cells that nobody reads as a string. -/
def Blk (w : World) (b : Nat) (C : List Value) : Prop := ∃ T, w.heap[b]? = some (.cells C.toArray T (0, 0))

theorem Blk.lt {w : World} {b : Nat} {C : List Value} (h : Blk w b C) : b < w.heap.size := by
  obtain ⟨T, h⟩ := h
  rcases Nat.lt_or_ge b w.heap.size with h' | h'
  · exact h'
  · simp [Array.getElem?_eq_none h'] at h
theorem Blk.cell {w : World} {b i : Nat} {C : List Value} {v : Value} (h : Blk w b C) (hi : C[i]? = some v) : w.cell? ⟨b, i, none⟩ = some v := by
  obtain ⟨T, h⟩ := h
  simp [World.cell?, h, hi]
theorem Blk.frozen {w : World} {b i : Nat} {C : List Value} (h : Blk w b C) : w.frozen? ⟨b, i, none⟩ = false := by
  obtain ⟨T, h⟩ := h
  simp [World.frozen?, h]
theorem Blk.ext {M : List Nat} {w w' : World} {b : Nat} {C : List Value} (h : Blk w b C) (he : Ext M w w') (hb : b ∉ M) : Blk w' b C := by
  have hl := h.lt
  obtain ⟨T, h⟩ := h
  exact ⟨T, by rw [he.block b hl hb]; exact h⟩
theorem Blk.new (w : World) (C : List Value) (T : TypeId) : Blk (w.alloc (.cells C.toArray T)) w.heap.size C := ⟨T, heap_alloc_new _ _⟩
theorem Blk.alloc {w : World} {b : Nat} {C : List Value} (h : Blk w b C) (o : Obj) : Blk (w.alloc o) b C := h.ext ((Ext.refl [] w).alloc o) (by simp)
theorem Blk.drew {w : World} {b : Nat} {C : List Value} (h : Blk w b C) : Blk w.drew b C := h
/-- The world with other cells in a block. -/
def setB (w : World) (b : Nat) (C : List Value) : World :=
  { w with heap := w.heap.modify b fun | .cells _ T f => .cells C.toArray T f | o => o }
theorem setB_size (w : World) (b : Nat) (C : List Value) : (setB w b C).heap.size = w.heap.size := by simp [setB]
theorem setB_heap {w : World} {b : Nat} {C D : List Value} (h : Blk w b C) : Blk (setB w b D) b D := by
  obtain ⟨T, h⟩ := h
  exact ⟨T, by simp [setB, Array.getElem?_modify, h]⟩
theorem setB_ext (w : World) (b : Nat) (C : List Value) : Ext [b] w (setB w b C) :=
  ⟨rfl, rfl, rfl, by simp [setB], fun x _ hm => by
    simp only [setB, Array.getElem?_modify]
    rw [if_neg (by simp at hm; omega)]⟩
theorem setB_setB (w : World) (b : Nat) (C D : List Value) : setB (setB w b C) b D = setB w b D := by
  unfold setB
  congr 1
  apply Array.ext
  · simp
  · intro i h1 h2
    simp only [Array.getElem_modify]
    split
    · cases w.heap[i]'(by simpa using h1) <;> rfl
    · rfl
theorem setCell_eq {w : World} {b i : Nat} {C : List Value} (h : Blk w b C) (v : Value) : w.setCell ⟨b, i, none⟩ v = setB w b (C.set i v) := by
  obtain ⟨T, h⟩ := h
  unfold World.setCell setB
  congr 1
  apply Array.ext
  · simp
  · intro j h1 h2
    simp only [Array.getElem_modify]
    split
    · rename_i e
      subst e
      have : w.heap[b]'(by simpa using h1) = .cells C.toArray T (0, 0) := by
        rw [Array.getElem?_eq_getElem (by simpa using h1)] at h
        exact Option.some.inj h
      rw [this]
      simp
    · rfl

/-! ### Reading -/
def ab (a : Option Addr) : Nat := (a.map (·.block)).getD 0
def ao (a : Option Addr) : Nat := (a.map (·.off)).getD 0
theorem ab_some (b o : Nat) : ab (some ⟨b, o, none⟩) = b := rfl
theorem ao_some (b o : Nat) : ao (some ⟨b, o, none⟩) = o := rfl

/-- Cells, one behind the other, from a place on. -/
def Row (w : World) (a : Option Addr) (cs : List Value) : Prop :=
  (0 < cs.length → a = some ⟨ab a, ao a, none⟩) ∧ ∀ i, ∀ h : i < cs.length, w.cell? ⟨ab a, ao a + i, none⟩ = some cs[i]

theorem Row.ext {M : List Nat} {w w' : World} {a : Option Addr} {cs : List Value} (h : Row w a cs) (he : Ext M w w') (hb : ab a ∉ M ∨ cs = []) : Row w' a cs := by
  refine ⟨h.1, fun i hi => ?_⟩
  have hc := h.2 i hi
  have hl := World.block_lt_of_cell? _ _ hc
  have hne : cs ≠ [] := fun e => by subst e; simp at hi
  have hbb : w'.heap[ab a]? = w.heap[ab a]? := he.block _ hl (hb.resolve_right hne)
  rw [← hc]
  simp only [World.cell?]
  rw [hbb]
theorem Row.ext' {w w' : World} {a : Option Addr} {cs : List Value} (h : Row w a cs) (he : Ext [] w w') : Row w' a cs := h.ext he (.inl (by simp))
theorem Row.nil (w : World) (a : Option Addr) : Row w a [] := ⟨fun h => by simp at h, fun i h => by simp at h⟩
theorem Row.of_blk {w : World} {b : Nat} {C cs : List Value} {o : Nat} (h : Blk w b C) (hc : ∀ i, ∀ h : i < cs.length, C[o + i]? = some cs[i]) : Row w (some ⟨b, o, none⟩) cs :=
  ⟨fun _ => rfl, fun i hi => h.cell (hc i hi)⟩
theorem Row.drew {w : World} {a : Option Addr} {cs : List Value} (h : Row w a cs) : Row w.drew a cs := h
theorem Row.alloc {w : World} {a : Option Addr} {cs : List Value} (h : Row w a cs) (o : Obj) : Row (w.alloc o) a cs := h.ext' ((Ext.refl [] w).alloc o)
/-- A part of it. -/
theorem Row.take {w : World} {a : Option Addr} {cs : List Value} (h : Row w a cs) (n : Nat) : Row w a (cs.take n) :=
  ⟨fun hl => h.1 (by simp at hl; omega), fun i hi => by
    have : i < cs.length := by simp at hi; omega
    rw [h.2 i this]; simp⟩

theorem addr_add (b o n : Nat) : Addr.add ⟨b, o, none⟩ n = ⟨b, o + n, none⟩ := by
  unfold Addr.add; split <;> simp_all

theorem run_underlying {P : Program} {w : World} {t : TypeId} {d : TypeDesc} (h : P.underlying t = some d) : (underlying t).run P w = .ok d w := by
  unfold underlying
  simp only [program, Sem.run_bind]
  show (Sem.run P (Sem.program Sem.pure) w).andThen _ = _
  simp only [Sem.run, Result.andThen_ok, h]
  rfl
theorem run_typeInfo {P : Program} {w : World} {t : TypeId} {i : TypeInfo} (h : P.info? t = some i) : (typeInfo t).run P w = .ok i w := by
  unfold typeInfo
  simp only [program, Sem.run_bind]
  show (Sem.run P (Sem.program Sem.pure) w).andThen _ = _
  simp only [Sem.run, Result.andThen_ok, h]
  rfl
theorem run_sizeOf {P : Program} {w : World} {t : TypeId} {s : Nat} (h : (P.info? t).map (·.size) = some s) : (sizeOf t).run P w = .ok s w := by
  unfold sizeOf
  cases hi : P.info? t with
  | none => rw [hi] at h; cases h
  | some i =>
    rw [hi] at h
    simp at h
    subst h
    rw [Sem.run_bind, run_typeInfo hi]
    rfl
def aggD : TypeDesc → Bool
  | .struct _ | .array _ _ => true
  | _ => false
theorem run_isAgg {P : Program} {w : World} {t : TypeId} {d : TypeDesc} (h : P.underlying t = some d) :
    (isAgg t).run P w = .ok (aggD d) w := by
  unfold isAgg
  rw [Sem.run_bind, run_underlying h, Result.andThen_ok]
  cases d <;> rfl
theorem run_zero {P : Program} {w : World} {t : TypeId} {v : Value} (h : (P.info? t).bind (·.zero) = some v) : (zeroValue t).run P w = .ok v w := by
  unfold zeroValue
  cases hi : P.info? t with
  | none => rw [hi] at h; cases h
  | some i =>
    rw [hi] at h
    simp at h
    rw [Sem.run_bind, run_typeInfo hi, Result.andThen_ok, h]
    rfl

/-! ### Cells read at once -/
theorem run_loadCellsFrom {P : Program} {w : World} : ∀ (cs : List Value) (b o j : Nat) (acc : Array Value), (∀ i, ∀ h : i < cs.length, w.cell? ⟨b, o + (j + i), none⟩ = some cs[i]) →
    (loadCellsFrom ⟨b, o, none⟩ j cs.length acc).run P w = .ok (acc ++ cs.toArray) w
  | [], b, o, j, acc, _ => by simp [loadCellsFrom, Sem.run, pure]
  | v :: cs, b, o, j, acc, h => by
    have h0 := h 0 (by simp)
    have ih := run_loadCellsFrom (P := P) cs b o (j + 1) (acc.push v) (fun i hi => by
      have := h (i + 1) (by simpa using hi)
      rw [show j + 1 + i = j + (i + 1) by omega]
      simpa using this)
    simp only [List.length_cons, loadCellsFrom, Sem.run_bind, addr_add]
    have e : (load ⟨b, o + j, none⟩).run P w = .ok v w := by
      simp only [load, Sem.run]
      rw [show o + j = o + (j + 0) by omega, h0]
      rfl
    rw [e, Result.andThen_ok, ih]
    congr 1
    apply Array.toList_inj.1
    simp
theorem run_loadCells {P : Program} {w : World} {cs : List Value} {b o : Nat} (h : ∀ i, ∀ h : i < cs.length, w.cell? ⟨b, o + i, none⟩ = some cs[i]) : (loadCells ⟨b, o, none⟩ cs.length).run P w = .ok cs.toArray w := by
  unfold loadCells
  rw [run_loadCellsFrom cs b o 0 #[] (fun i hi => by rw [Nat.zero_add]; exact h i hi)]
  simp
/-! ### Cells written at once -/
def setL (C : List Value) (o : Nat) : List Value → List Value
  | [] => C
  | v :: vs => setL (C.set o v) (o + 1) vs
theorem setL_length : ∀ (vs C : List Value) (o : Nat), (setL C o vs).length = C.length
  | [], _, _ => rfl
  | v :: vs, C, o => by rw [setL, setL_length vs]; simp
theorem setL_get : ∀ (vs C : List Value) (o j : Nat), o + vs.length ≤ C.length → (setL C o vs)[j]? = if o ≤ j ∧ j < o + vs.length then vs[j - o]? else C[j]?
  | [], C, o, j, h => by simp [setL]; omega
  | v :: vs, C, o, j, h => by
    simp only [List.length_cons] at h
    rw [setL, setL_get vs _ (o + 1) j (by simp; omega)]
    by_cases h1 : o + 1 ≤ j ∧ j < o + 1 + vs.length
    · rw [if_pos h1, if_pos (by simp; omega), show j - o = (j - (o + 1)) + 1 by omega]; simp
    · rw [if_neg h1]
      by_cases h2 : j = o
      · subst h2
        rw [if_pos (by simp), List.getElem?_set_self (by omega)]; simp
      · rw [if_neg (by simp; omega), List.getElem?_set_ne (by omega)]
theorem run_storeCells {P : Program} : ∀ (vs : List Value) (w : World) (b o j : Nat) (C : List Value), (∀ v ∈ vs, oneC v = true) → Blk w b C → o + j + vs.length ≤ C.length →
    (storeCells ⟨b, o, none⟩ vs j).run P w = .ok () (if vs = [] then w else setB w b (setL C (o + j) vs))
  | [], w, b, o, j, C, _, _, _ => by simp [storeCells, Sem.run, pure]
  | v :: vs, w, b, o, j, C, h1, hb, hl => by
    simp only [List.length_cons] at hl
    have hc : w.cell? ⟨b, o + j, none⟩ = some (C[o + j]'(by omega)) := hb.cell (by simp)
    have e : (store ⟨b, o + j, none⟩ v).run P w = .ok () (setB w b (C.set (o + j) v)) := by
      have hv := h1 v (by simp)
      have hs := setCell_eq (i := o + j) hb v
      unfold store
      cases v <;> first
        | (simp [oneC] at hv; done)
        | (simp only [Sem.run, hc, hb.frozen, Bool.false_eq_true, if_false, hs])
    simp only [storeCells, Sem.run_bind, addr_add, e, Result.andThen_ok]
    rw [run_storeCells vs _ b o (j + 1) (C.set (o + j) v) (fun x hx => h1 x (by simp [hx])) (setB_heap hb) (by simp; omega)]
    simp only [List.cons_ne_nil, if_false, setL, setB_setB, Nat.add_assoc]
    cases vs with
    | nil => simp [setL]
    | cons _ _ => simp

theorem setB_alloc_new {w : World} {t : TypeId} {C D : List Value} : setB (w.alloc (.cells C.toArray t)) w.heap.size D = w.alloc (.cells D.toArray t) := by
  unfold setB World.alloc
  congr 1
  apply Array.ext
  · simp
  · intro j h1 h2
    simp only [Array.getElem_modify]
    simp at h2
    by_cases hj : w.heap.size = j
    · subst hj; simp
    · rw [if_neg hj, Array.getElem_push_lt (by omega), Array.getElem_push_lt (by omega)]
theorem setB_alloc_old {w : World} {D : List Value} {b : Nat} {o : Obj} (h : b < w.heap.size) : setB (w.alloc o) b D = (setB w b D).alloc o := by
  unfold setB World.alloc
  congr 1
  apply Array.ext
  · simp
  · intro j h1 h2
    simp only [Array.getElem_modify]
    simp at h2
    by_cases hj : j < w.heap.size
    · rw [Array.getElem_push_lt hj, Array.getElem_push_lt (by simpa using hj), Array.getElem_modify]
    · have : j = w.heap.size := by omega
      subst this
      rw [if_neg (by omega), Array.getElem_push, Array.getElem_push, dif_neg (by omega), dif_neg (by simp)]

def szOf (P : Program) (t : TypeId) : Option Nat := (P.info? t).map (·.size)
def byOf (P : Program) (t : TypeId) : Option Nat := (P.info? t).map (·.bytes)
def zeOf (P : Program) (t : TypeId) : Option (List Value) := ((P.info? t).bind (·.zero)).map fun v => v.cells.toList
theorem cells_one {v : Value} (h : oneC v = true) : v.cells = #[v] := by cases v <;> first | rfl | cases h

/-! ### Cells, for the engine -/
/-- A cell is read. -/
def cellK (w : World) (a : Addr) (F : Bool → Value → Prop) : Prop := match w.cell? a with | some v => F true v | none => False
def readC (w : World) (b : Nat) : Nat → Nat → Option (List Value)
  | _, 0 => some []
  | o, n + 1 => match w.cell? ⟨b, o, none⟩ with | some v => (readC w b (o + 1) n).map (v :: ·) | none => none
/-- Cells, one behind the other, are read. -/
def cellsK (w : World) (a : Addr) (n : Nat) (F : Bool → List Value → Prop) : Prop :=
  match a.spot with
  | none => (match readC w a.block a.off n with | some cs => F true cs | none => False)
  | some _ => False
/-- A cell is written. -/
def stK (w : World) (a : Addr) (v : Value) (K : Bool → World → Prop) : Prop :=
  match w.cell? a with
  | some _ => if w.frozen? a = true ∨ oneC v = false then False else K true (w.setCell a v)
  | none => False
def stsK : World → Addr → List Value → (Bool → World → Prop) → Prop
  | w, _, [], K => K true w
  | w, a, v :: vs, K => stK w a v fun _ w' => stsK w' (a.add 1) vs K

theorem readC_get {w : World} {b : Nat} : ∀ (n o : Nat) (cs : List Value), readC w b o n = some cs → cs.length = n ∧ ∀ i, ∀ h : i < cs.length, w.cell? ⟨b, o + i, none⟩ = some cs[i]
  | 0, o, cs, h => by simp [readC] at h; subst h; exact ⟨rfl, fun i hi => by simp at hi⟩
  | n + 1, o, cs, h => by
    simp only [readC] at h
    cases hc : w.cell? ⟨b, o, none⟩ with
    | none => rw [hc] at h; cases h
    | some v =>
      rw [hc] at h
      cases hr : readC w b (o + 1) n with
      | none => rw [hr] at h; cases h
      | some r =>
        rw [hr] at h
        simp at h
        subst h
        obtain ⟨h1, h2⟩ := readC_get n (o + 1) r hr
        refine ⟨by simp [h1], fun i hi => ?_⟩
        cases i with
        | zero => simpa using hc
        | succ i =>
          have := h2 i (by simpa using hi)
          rw [show o + (i + 1) = o + 1 + i by omega]
          simpa using this
theorem readC_of {w : World} {b : Nat} : ∀ (cs : List Value) (o : Nat), (∀ i, ∀ h : i < cs.length, w.cell? ⟨b, o + i, none⟩ = some cs[i]) → readC w b o cs.length = some cs
  | [], _, _ => rfl
  | v :: cs, o, h => by
    have h0 := h 0 (by simp)
    simp only [Nat.add_zero, List.getElem_cons_zero] at h0
    have ih := readC_of cs (o + 1) (fun i hi => by
      have := h (i + 1) (by simpa using hi)
      rw [show o + 1 + i = o + (i + 1) by omega]
      simpa using this)
    simp only [List.length_cons, readC, h0, ih]
    rfl

def loadK (P : Program) (t : TypeId) (a : Value) (w : World) (K : Bool → Value → World → Prop) : Prop :=
  match a with
  | .pointer (some x) =>
    (match P.underlying t with
    | some d => (bif aggD d then (match szOf P t with | some n => cellsK w x n fun τ cs => K τ (.agg cs.toArray) w | none => False) else cellK w x fun τ v => K τ v w)
    | none => False)
  | _ => False
def storeK (P : Program) (t : TypeId) (a v : Value) (w : World) (K : Bool → World → Prop) : Prop :=
  match a with
  | .pointer (some x) => if szOf P t = some v.cells.size then stsK w x v.cells.toList K else False
  | _ => False

theorem loadK_run {P : Program} {t : TypeId} {a : Value} {w : World} {K : Bool → Value → World → Prop} (h : loadK P t a w K) : ∃ v, (Instr.loadAt t a).run P w = .ok v w ∧ K true v w := by
  unfold loadK at h
  split at h
  · rename_i x
    cases hd : P.underlying t with
    | none => rw [hd] at h; exact h.elim
    | some d =>
      rw [hd] at h
      simp only at h
      unfold Instr.loadAt loadVar
      simp only [Instr.sureAddr, pure_bind, Sem.run_bind, run_isAgg hd, Result.andThen_ok]
      cases hg : aggD d with
      | true =>
        rw [hg] at h
        simp only [cond_true] at h
        cases hs : szOf P t with
        | none => rw [hs] at h; exact h.elim
        | some n =>
          rw [hs] at h
          unfold cellsK at h
          obtain ⟨b, o, sp⟩ := x
          cases sp with
          | some _ => exact h.elim
          | none =>
            simp only at h
            cases hr : readC w b o n with
            | none => rw [hr] at h; exact h.elim
            | some cs =>
              rw [hr] at h
              obtain ⟨h1, h2⟩ := readC_get _ _ _ hr
              subst h1
              refine ⟨_, ?_, h⟩
              simp only [if_true, Sem.run_bind, run_sizeOf hs, Result.andThen_ok, run_loadCells h2]
              rfl
      | false =>
        rw [hg] at h
        simp only [cond_false] at h
        unfold cellK at h
        cases hc : w.cell? x with
        | none => rw [hc] at h; exact h.elim
        | some v =>
          rw [hc] at h
          refine ⟨v, ?_, h⟩
          simp only [Bool.false_eq_true, if_false, load, Sem.run, hc]
  · exact h.elim
theorem stsK_run {P : Program} : ∀ (vs : List Value) (w : World) (a : Addr) (j : Nat) (K : Bool → World → Prop), a.spot = none → stsK w (a.add j) vs K → ∃ w', (storeCells a vs j).run P w = .ok () w' ∧ K true w'
  | [], w, a, j, K, _, h => ⟨w, rfl, h⟩
  | v :: vs, w, a, j, K, hs, h => by
    obtain ⟨b, o, sp⟩ := a
    simp only at hs
    subst hs
    simp only [stsK, stK, addr_add] at h
    cases hc : w.cell? ⟨b, o + j, none⟩ with
    | none => rw [hc] at h; exact h.elim
    | some u =>
      rw [hc] at h
      simp only at h
      split at h
      · exact h.elim
      · rename_i hn
        have hf : w.frozen? ⟨b, o + j, none⟩ = false := by
          cases hf : w.frozen? ⟨b, o + j, none⟩ with
          | false => rfl
          | true => exact absurd (.inl hf) hn
        have ho : oneC v = true := by
          cases ho : oneC v with
          | true => rfl
          | false => exact absurd (.inr ho) hn
        have e : (store ⟨b, o + j, none⟩ v).run P w = .ok () (w.setCell ⟨b, o + j, none⟩ v) := by
          unfold store
          cases v <;> first
            | (simp [oneC] at ho; done)
            | (simp only [Sem.run, hc, hf, Bool.false_eq_true, if_false])
        have ih := stsK_run (P := P) vs (w.setCell ⟨b, o + j, none⟩ v) ⟨b, o, none⟩ (j + 1) K rfl (by rw [addr_add, ← Nat.add_assoc]; exact h)
        obtain ⟨w', h1, h2⟩ := ih
        refine ⟨w', ?_, h2⟩
        simp only [storeCells, Sem.run_bind, addr_add, e, Result.andThen_ok, h1]
theorem stK_spot {w : World} {a : Addr} {v : Value} {K : Bool → World → Prop} (h : stK w a v K) : a.spot = none := by
  unfold stK World.cell? at h
  cases hs : a.spot with
  | none => rfl
  | some x =>
    simp only [hs, Option.isSome_some, if_true] at h
    split at h
    · rename_i hh; split at hh <;> cases hh
    · exact h.elim
theorem storeK_run {P : Program} {t : TypeId} {a v : Value} {w : World} {K : Bool → World → Prop} (h : storeK P t a v w K) : ∃ w', (Instr.storeAt t a v).run P w = .ok () w' ∧ K true w' := by
  unfold storeK at h
  split at h
  · rename_i x
    split at h
    · rename_i hz
      unfold Instr.storeAt storeVar
      simp only [Instr.sureAddr, pure_bind, Sem.run_bind, run_sizeOf hz, Result.andThen_ok]
      rw [if_neg (by simp)]
      cases hv : v.cells.toList with
      | nil =>
        rw [hv] at h
        exact ⟨w, rfl, h⟩
      | cons u us =>
        rw [hv] at h
        have hsp := stK_spot h
        exact stsK_run (P := P) (u :: us) w x 0 K hsp h
    · exact h.elim
  · exact h.elim

/-! ### Their rules -/
theorem cellK_of {w : World} {a : Addr} {v : Value} {F : Bool → Value → Prop} (h : w.cell? a = some v) : cellK w a F = F true v := by simp [cellK, h]
theorem cellsK_of {w : World} {cs : List Value} {b o n : Nat} {F : Bool → List Value → Prop} (h : ∀ i, ∀ h : i < cs.length, w.cell? ⟨b, o + i, none⟩ = some cs[i]) (hn : n = cs.length) : cellsK w ⟨b, o, none⟩ n F = F true cs := by
  subst hn
  simp [cellsK, readC_of cs o h]
theorem Row.cellK {w : World} {a : Option Addr} {cs : List Value} (h : Row w a cs) {m : Nat} (hm : m < cs.length) (F : Bool → Value → Prop) : Eng.cellK w ⟨ab a, ao a + m, none⟩ F = F true cs[m] := cellK_of (h.2 m hm)
def lstK (C : List Value) (j : Nat) (F : Bool → Value → Prop) : Prop := match C[j]? with | some v => F true v | none => False
theorem lstK_of {C : List Value} {j : Nat} {v : Value} {F : Bool → Value → Prop} (h : C[j]? = some v) : lstK C j F = F true v := by simp [lstK, h]
theorem stK_blk {w : World} {b i : Nat} {v : Value} {C : List Value} {K : Bool → World → Prop} (hb : Blk w b C) (hi : i < C.length) (hv : oneC v = true) : stK w ⟨b, i, none⟩ v K = K true (setB w b (C.set i v)) := by
  unfold stK
  rw [hb.cell (i := i) (v := C[i]) (by simp), hb.frozen, hv, setCell_eq hb]
  simp
theorem stsK_blk {b : Nat} {K : Bool → World → Prop} : ∀ (vs : List Value) (w : World) (i : Nat) (C : List Value), Blk w b C → i + vs.length ≤ C.length → (∀ v ∈ vs, oneC v = true) →
    stsK w ⟨b, i, none⟩ vs K = K true (if vs = [] then w else setB w b (setL C i vs))
  | [], w, i, C, _, _, _ => by simp [stsK]
  | v :: vs, w, i, C, hb, hi, hv => by
    simp only [List.length_cons] at hi
    simp only [stsK, addr_add]
    rw [stK_blk (i := i) (v := v) hb (by omega) (hv v (by simp))]
    rw [stsK_blk vs _ _ _ (setB_heap hb) (by simp; omega) (fun u hu => hv u (by simp [hu]))]
    simp only [List.cons_ne_nil, if_false, setL, setB_setB]
    cases vs with
    | nil => simp [setL]
    | cons _ _ => simp
end Go.Eng
