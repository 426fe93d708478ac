import Derived.StillTail
import Derived.OrdersHeld
import Derived.Laws.Sem
import Derived.Scope
namespace Go.Eng
set_option linter.unusedSimpArgs false
set_option linter.unusedVariables false

def oneC : Value → Bool
 | .agg _ | .tuple _ => false
 | _ => true

structure Ext (M : List Nat) (w w' : World) : Prop where
 os : w'.os = w.os
 tape : w'.tape = w.tape
 output : w'.output = w.output
 dr : w.drawn ≤ w'.drawn
 size : w.heap.size ≤ w'.heap.size
 block : ∀ b, b < w.heap.size → b ∉ M → w'.heap[b]? = w.heap[b]?

theorem Ext.refl (M : List Nat) (w : World) : Ext M w w := ⟨rfl, rfl, rfl, Nat.le_refl _, Nat.le_refl _, fun _ _ _ => rfl⟩
theorem Ext.trans {M N : List Nat} {a b c : World} (h : Ext M a b) (k : Ext N b c) (hN : ∀ x ∈ N, x ∈ M ∨ a.heap.size ≤ x) : Ext M a c :=
 ⟨k.os.trans h.os, k.tape.trans h.tape, k.output.trans h.output, Nat.le_trans h.dr k.dr, Nat.le_trans h.size k.size, fun x hx hm => by
  rw [k.block x (Nat.lt_of_lt_of_le hx h.size) (fun hn => (hN x hn).elim hm (fun h1 => absurd h1 (by omega))), h.block x hx hm]⟩
theorem Ext.trans' {M : List Nat} {a b c : World} (h : Ext M a b) (k : Ext [] b c) : Ext M a c := h.trans k (fun _ h => by cases h)
theorem Ext.mono {M N : List Nat} {a b : World} (h : Ext M a b) (hN : ∀ x ∈ M, x ∈ N ∨ a.heap.size ≤ x) : Ext N a b :=
 ⟨h.os, h.tape, h.output, h.dr, h.size, fun x hx hn => h.block x hx (fun hm => (hN x hm).elim hn (fun h1 => absurd h1 (by omega)))⟩
theorem Ext.drew {M : List Nat} {a b : World} (h : Ext M a b) : Ext M a b.drew := ⟨h.os, h.tape, h.output, Nat.le_succ_of_le h.dr, h.size, h.block⟩
theorem heap_alloc_lt (w : World) (o : Obj) (k : Nat) (h : k < w.heap.size) : (w.alloc o).heap[k]? = w.heap[k]? := by
 show (w.heap.push o)[k]? = _
 rw [Array.getElem?_push, if_neg (by omega)]
theorem heap_alloc_new (w : World) (o : Obj) : (w.alloc o).heap[w.heap.size]? = some o := by
 show (w.heap.push o)[w.heap.size]? = _
 rw [Array.getElem?_push, if_pos rfl]
theorem Ext.alloc {M : List Nat} {a b : World} (h : Ext M a b) (o : Obj) : Ext M a (b.alloc o) :=
 ⟨h.os, h.tape, h.output, h.dr, by simp; have := h.size; omega, fun x hx hm => by rw [heap_alloc_lt _ _ _ (Nat.lt_of_lt_of_le hx h.size)]; exact h.block x hx hm⟩

def Blk (w : World) (b : Nat) (C : List Value) : Prop := ∃ T, w.heap[b]? = some (.cells C.toArray T (0, 0))

theorem Blk.lt {w : World} {b : Nat} {C : List Value} (h : Blk w b C) : b < w.heap.size := by
 obtain ⟨T, h⟩ := h
 rcases Nat.lt_or_ge b w.heap.size with h' | h'
 ·
  exact h'
 ·
  simp [Array.getElem?_eq_none h'] at h
theorem Blk.cell {w : World} {b i : Nat} {C : List Value} {v : Value} (h : Blk w b C) (hi : C[i]? = some v) : w.cell? ⟨b, i, none⟩ = some v := by
 obtain ⟨T, h⟩ := h
 simp [World.cell?, h, hi]
theorem Blk.frozen {w : World} {b i : Nat} {C : List Value} (h : Blk w b C) : w.frozen? ⟨b, i, none⟩ = false := by
 obtain ⟨T, h⟩ := h
 simp [World.frozen?, h]
theorem Blk.ext {M : List Nat} {w w' : World} {b : Nat} {C : List Value} (h : Blk w b C) (he : Ext M w w') (hb : b ∉ M) : Blk w' b C := by
 have hl := h.lt
 obtain ⟨T, h⟩ := h
 exact ⟨T, by rw [he.block b hl hb]; exact h⟩
theorem Blk.new (w : World) (C : List Value) (T : TypeId) : Blk (w.alloc (.cells C.toArray T)) w.heap.size C := ⟨T, heap_alloc_new _ _⟩
theorem Blk.alloc {w : World} {b : Nat} {C : List Value} (h : Blk w b C) (o : Obj) : Blk (w.alloc o) b C := h.ext ((Ext.refl [] w).alloc o) (by simp)
theorem Blk.drew {w : World} {b : Nat} {C : List Value} (h : Blk w b C) : Blk w.drew b C := h
def setB (w : World) (b : Nat) (C : List Value) : World :=
 { w with heap := w.heap.modify b fun | .cells _ T f => .cells C.toArray T f | o => o }
theorem setB_heap {w : World} {b : Nat} {C D : List Value} (h : Blk w b C) : Blk (setB w b D) b D := by
 obtain ⟨T, h⟩ := h
 exact ⟨T, by simp [setB, Array.getElem?_modify, h]⟩
theorem setB_ext (w : World) (b : Nat) (C : List Value) : Ext [b] w (setB w b C) :=
 ⟨rfl, rfl, rfl, Nat.le_refl _, by simp [setB], fun x _ hm => by
  simp only [setB, Array.getElem?_modify]
  rw [if_neg (by simp at hm; omega)]⟩
theorem setB_setB (w : World) (b : Nat) (C D : List Value) : setB (setB w b C) b D = setB w b D := by
 unfold setB
 congr 1
 apply Array.ext
 ·
  simp
 ·
  intro i h1 h2
  simp only [Array.getElem_modify]
  split
  ·
   cases w.heap[i]'(by simpa using h1) <;> rfl
  ·
   rfl
theorem setCell_eq {w : World} {b i : Nat} {C : List Value} (h : Blk w b C) (v : Value) : w.setCell ⟨b, i, none⟩ v = setB w b (C.set i v) := by
 obtain ⟨T, h⟩ := h
 unfold World.setCell setB
 congr 1
 apply Array.ext
 ·
  simp
 ·
  intro j h1 h2
  simp only [Array.getElem_modify]
  split
  ·
   rename_i e
   subst e
   have : w.heap[b]'(by simpa using h1) = .cells C.toArray T (0, 0) := by
    rw [Array.getElem?_eq_getElem (by simpa using h1)] at h
    exact Option.some.inj h
   rw [this]
   simp
  ·
   rfl

def ab (a : Option Addr) : Nat := (a.map (·.block)).getD 0
def ao (a : Option Addr) : Nat := (a.map (·.off)).getD 0
theorem ab_some (b o : Nat) : ab (some ⟨b, o, none⟩) = b := rfl
theorem ao_some (b o : Nat) : ao (some ⟨b, o, none⟩) = o := rfl

def Row (w : World) (a : Option Addr) (cs : List Value) : Prop :=
 (0 < cs.length → a = some ⟨ab a, ao a, none⟩) ∧ ∀ i, ∀ h : i < cs.length, w.cell? ⟨ab a, ao a + i, none⟩ = some cs[i]

theorem Row.ext {M : List Nat} {w w' : World} {a : Option Addr} {cs : List Value} (h : Row w a cs) (he : Ext M w w') (hb : ab a ∉ M ∨ cs = []) : Row w' a cs := by
 refine ⟨h.1, fun i hi => ?_⟩
 have hc := h.2 i hi
 have hl := World.block_lt_of_cell? _ _ hc
 have hne : cs ≠ [] := fun e => by subst e; simp at hi
 have hbb : w'.heap[ab a]? = w.heap[ab a]? := he.block _ hl (hb.resolve_right hne)
 rw [← hc]
 simp only [World.cell?]
 rw [hbb]
theorem Row.ext' {w w' : World} {a : Option Addr} {cs : List Value} (h : Row w a cs) (he : Ext [] w w') : Row w' a cs := h.ext he (.inl (by simp))
theorem Row.nil (w : World) (a : Option Addr) : Row w a [] := ⟨fun h => by simp at h, fun i h => by simp at h⟩
theorem Row.of_blk {w : World} {b : Nat} {C cs : List Value} {o : Nat} (h : Blk w b C) (hc : ∀ i, ∀ h : i < cs.length, C[o + i]? = some cs[i]) : Row w (some ⟨b, o, none⟩) cs :=
 ⟨fun _ => rfl, fun i hi => h.cell (hc i hi)⟩
theorem Row.drew {w : World} {a : Option Addr} {cs : List Value} (h : Row w a cs) : Row w.drew a cs := h
theorem Row.alloc {w : World} {a : Option Addr} {cs : List Value} (h : Row w a cs) (o : Obj) : Row (w.alloc o) a cs := h.ext' ((Ext.refl [] w).alloc o)
theorem Row.take {w : World} {a : Option Addr} {cs : List Value} (h : Row w a cs) (n : Nat) : Row w a (cs.take n) :=
 ⟨fun hl => h.1 (by simp at hl; omega), fun i hi => by
  have : i < cs.length := by simp at hi; omega
  rw [h.2 i this]; simp⟩

theorem addr_add (b o n : Nat) : Addr.add ⟨b, o, none⟩ n = ⟨b, o + n, none⟩ := by
 unfold Addr.add; split <;> simp_all

theorem run_underlying {P : Program} {w : World} {t : TypeId} {d : TypeDesc} (h : P.underlying t = some d) : (underlying t).run P w = .ok d w := by
 unfold underlying
 simp only [program, Sem.run_bind]
 show (Sem.run P (Sem.program Sem.pure) w).andThen _ = _
 simp only [Sem.run, Result.andThen_ok, h]
 rfl
theorem run_typeInfo {P : Program} {w : World} {t : TypeId} {i : TypeInfo} (h : P.info? t = some i) : (typeInfo t).run P w = .ok i w := by
 unfold typeInfo
 simp only [program, Sem.run_bind]
 show (Sem.run P (Sem.program Sem.pure) w).andThen _ = _
 simp only [Sem.run, Result.andThen_ok, h]
 rfl
theorem run_sizeOf {P : Program} {w : World} {t : TypeId} {s : Nat} (h : (P.info? t).map (·.size) = some s) : (sizeOf t).run P w = .ok s w := by
 unfold sizeOf
 cases hi : P.info? t with
 | none => rw [hi] at h; cases h
 | some i =>
  rw [hi] at h
  simp at h
  subst h
  rw [Sem.run_bind, run_typeInfo hi]
  rfl
def aggD : TypeDesc → Bool
 | .struct _ | .array _ _ => true
 | _ => false
theorem run_isAgg {P : Program} {w : World} {t : TypeId} {d : TypeDesc} (h : P.underlying t = some d) :
  (isAgg t).run P w = .ok (aggD d) w := by
 unfold isAgg
 rw [Sem.run_bind, run_underlying h, Result.andThen_ok]
 cases d <;> rfl
theorem run_zero {P : Program} {w : World} {t : TypeId} {v : Value} (h : (P.info? t).bind (·.zero) = some v) : (zeroValue t).run P w = .ok v w := by
 unfold zeroValue
 cases hi : P.info? t with
 | none => rw [hi] at h; cases h
 | some i =>
  rw [hi] at h
  simp at h
  rw [Sem.run_bind, run_typeInfo hi, Result.andThen_ok, h]
  rfl

theorem run_loadCellsFrom {P : Program} {w : World} : ∀ (cs : List Value) (b o j : Nat) (acc : Array Value), (∀ i, ∀ h : i < cs.length, w.cell? ⟨b, o + (j + i), none⟩ = some cs[i]) →
  (loadCellsFrom ⟨b, o, none⟩ j cs.length acc).run P w = .ok (acc ++ cs.toArray) w
 | [], b, o, j, acc, _ => by simp [loadCellsFrom, Sem.run, pure]
 | v :: cs, b, o, j, acc, h => by
  have h0 := h 0 (by simp)
  have ih := run_loadCellsFrom (P := P) cs b o (j + 1) (acc.push v) (fun i hi => by
   have := h (i + 1) (by simpa using hi)
   rw [show j + 1 + i = j + (i + 1) by omega]
   simpa using this)
  simp only [List.length_cons, loadCellsFrom, Sem.run_bind, addr_add]
  have e : (load ⟨b, o + j, none⟩).run P w = .ok v w := by
   simp only [load, Sem.run]
   rw [show o + j = o + (j + 0) by omega, h0]
   rfl
  rw [e, Result.andThen_ok, ih]
  congr 1
  apply Array.toList_inj.1
  simp
theorem run_loadCells {P : Program} {w : World} {cs : List Value} {b o : Nat} (h : ∀ i, ∀ h : i < cs.length, w.cell? ⟨b, o + i, none⟩ = some cs[i]) : (loadCells ⟨b, o, none⟩ cs.length).run P w = .ok cs.toArray w := by
 unfold loadCells
 rw [run_loadCellsFrom cs b o 0 #[] (fun i hi => by rw [Nat.zero_add]; exact h i hi)]
 simp
def setL (C : List Value) (o : Nat) : List Value → List Value
 | [] => C
 | v :: vs => setL (C.set o v) (o + 1) vs
theorem setL_length : ∀ (vs C : List Value) (o : Nat), (setL C o vs).length = C.length
 | [], _, _ => rfl
 | v :: vs, C, o => by rw [setL, setL_length vs]; simp
theorem setL_get : ∀ (vs C : List Value) (o j : Nat), o + vs.length ≤ C.length → (setL C o vs)[j]? = if o ≤ j ∧ j < o + vs.length then vs[j - o]? else C[j]?
 | [], C, o, j, h => by simp [setL]; omega
 | v :: vs, C, o, j, h => by
  simp only [List.length_cons] at h
  rw [setL, setL_get vs _ (o + 1) j (by simp; omega)]
  by_cases h1 : o + 1 ≤ j ∧ j < o + 1 + vs.length
  ·
   rw [if_pos h1, if_pos (by simp; omega), show j - o = (j - (o + 1)) + 1 by omega]; simp
  ·
   rw [if_neg h1]
   by_cases h2 : j = o
   ·
    subst h2
    rw [if_pos (by simp), List.getElem?_set_self (by omega)]; simp
   ·
    rw [if_neg (by simp; omega), List.getElem?_set_ne (by omega)]
theorem run_storeCells {P : Program} : ∀ (vs : List Value) (w : World) (b o j : Nat) (C : List Value), (∀ v ∈ vs, oneC v = true) → Blk w b C → o + j + vs.length ≤ C.length →
  (storeCells ⟨b, o, none⟩ vs j).run P w = .ok () (if vs = [] then w else setB w b (setL C (o + j) vs))
 | [], w, b, o, j, C, _, _, _ => by simp [storeCells, Sem.run, pure]
 | v :: vs, w, b, o, j, C, h1, hb, hl => by
  simp only [List.length_cons] at hl
  have hc : w.cell? ⟨b, o + j, none⟩ = some (C[o + j]'(by omega)) := hb.cell (by simp)
  have e : (store ⟨b, o + j, none⟩ v).run P w = .ok () (setB w b (C.set (o + j) v)) := by
   have hv := h1 v (by simp)
   have hs := setCell_eq (i := o + j) hb v
   unfold store
   cases v <;> first
    | (simp [oneC] at hv; done)
    | (simp only [Sem.run, hc, hb.frozen, Bool.false_eq_true, if_false, hs])
  simp only [storeCells, Sem.run_bind, addr_add, e, Result.andThen_ok]
  rw [run_storeCells vs _ b o (j + 1) (C.set (o + j) v) (fun x hx => h1 x (by simp [hx])) (setB_heap hb) (by simp; omega)]
  simp only [List.cons_ne_nil, if_false, setL, setB_setB, Nat.add_assoc]
  cases vs with
  | nil => simp [setL]
  | cons _ _ => simp


def szOf (P : Program) (t : TypeId) : Option Nat := (P.info? t).map (·.size)
def byOf (P : Program) (t : TypeId) : Option Nat := (P.info? t).map (·.bytes)
def zeOf (P : Program) (t : TypeId) : Option (List Value) := ((P.info? t).bind (·.zero)).map fun v => v.cells.toList
theorem cells_one {v : Value} (h : oneC v = true) : v.cells = #[v] := by cases v <;> first | rfl | cases h

def cellK (w : World) (a : Addr) (F : Bool → Value → Prop) : Prop := match w.cell? a with | some v => F true v | none => False
def readC (w : World) (b : Nat) : Nat → Nat → Option (List Value)
 | _, 0 => some []
 | o, n + 1 => match w.cell? ⟨b, o, none⟩ with | some v => (readC w b (o + 1) n).map (v :: ·) | none => none
def cellsK (w : World) (a : Addr) (n : Nat) (F : Bool → List Value → Prop) : Prop :=
 match a.spot with
 | none => (match readC w a.block a.off n with | some cs => F true cs | none => False)
 | some _ => False
def stK (w : World) (a : Addr) (v : Value) (K : Bool → World → Prop) : Prop :=
 match w.cell? a with
 | some _ => if w.frozen? a = true ∨ oneC v = false then False else K true (w.setCell a v)
 | none => False
def stsK : World → Addr → List Value → (Bool → World → Prop) → Prop
 | w, _, [], K => K true w
 | w, a, v :: vs, K => stK w a v fun _ w' => stsK w' (a.add 1) vs K

theorem readC_get {w : World} {b : Nat} : ∀ (n o : Nat) (cs : List Value), readC w b o n = some cs → cs.length = n ∧ ∀ i, ∀ h : i < cs.length, w.cell? ⟨b, o + i, none⟩ = some cs[i]
 | 0, o, cs, h => by simp [readC] at h; subst h; exact ⟨rfl, fun i hi => by simp at hi⟩
 | n + 1, o, cs, h => by
  simp only [readC] at h
  cases hc : w.cell? ⟨b, o, none⟩ with
  | none => rw [hc] at h; cases h
  | some v =>
   rw [hc] at h
   cases hr : readC w b (o + 1) n with
   | none => rw [hr] at h; cases h
   | some r =>
    rw [hr] at h
    simp at h
    subst h
    obtain ⟨h1, h2⟩ := readC_get n (o + 1) r hr
    refine ⟨by simp [h1], fun i hi => ?_⟩
    cases i with
    | zero => simpa using hc
    | succ i =>
     have := h2 i (by simpa using hi)
     rw [show o + (i + 1) = o + 1 + i by omega]
     simpa using this
theorem readC_of {w : World} {b : Nat} : ∀ (cs : List Value) (o : Nat), (∀ i, ∀ h : i < cs.length, w.cell? ⟨b, o + i, none⟩ = some cs[i]) → readC w b o cs.length = some cs
 | [], _, _ => rfl
 | v :: cs, o, h => by
  have h0 := h 0 (by simp)
  simp only [Nat.add_zero, List.getElem_cons_zero] at h0
  have ih := readC_of cs (o + 1) (fun i hi => by
   have := h (i + 1) (by simpa using hi)
   rw [show o + 1 + i = o + (i + 1) by omega]
   simpa using this)
  simp only [List.length_cons, readC, h0, ih]
  rfl

def loadK (P : Program) (t : TypeId) (a : Value) (w : World) (K : Bool → Value → World → Prop) : Prop :=
 match a with
 | .pointer (some x) =>
  (match P.underlying t with
  | some d => (bif aggD d then (match szOf P t with | some n => cellsK w x n fun τ cs => K τ (.agg cs.toArray) w | none => False) else cellK w x fun τ v => K τ v w)
  | none => False)
 | _ => False
def storeK (P : Program) (t : TypeId) (a v : Value) (w : World) (K : Bool → World → Prop) : Prop :=
 match a with
 | .pointer (some x) => if szOf P t = some v.cells.size then stsK w x v.cells.toList K else False
 | _ => False

theorem loadK_run {P : Program} {t : TypeId} {a : Value} {w : World} {K : Bool → Value → World → Prop} (h : loadK P t a w K) : ∃ v, (Instr.loadAt t a).run P w = .ok v w ∧ K true v w := by
 unfold loadK at h
 split at h
 ·
  rename_i x
  cases hd : P.underlying t with
  | none => rw [hd] at h; exact h.elim
  | some d =>
   rw [hd] at h
   simp only at h
   unfold Instr.loadAt loadVar
   simp only [Instr.sureAddr, pure_bind, Sem.run_bind, run_isAgg hd, Result.andThen_ok]
   cases hg : aggD d with
   | true =>
    rw [hg] at h
    simp only [cond_true] at h
    cases hs : szOf P t with
    | none => rw [hs] at h; exact h.elim
    | some n =>
     rw [hs] at h
     unfold cellsK at h
     obtain ⟨b, o, sp⟩ := x
     cases sp with
     | some _ => exact h.elim
     | none =>
      simp only at h
      cases hr : readC w b o n with
      | none => rw [hr] at h; exact h.elim
      | some cs =>
       rw [hr] at h
       obtain ⟨h1, h2⟩ := readC_get _ _ _ hr
       subst h1
       refine ⟨_, ?_, h⟩
       simp only [if_true, Sem.run_bind, run_sizeOf hs, Result.andThen_ok, run_loadCells h2]
       rfl
   | false =>
    rw [hg] at h
    simp only [cond_false] at h
    unfold cellK at h
    cases hc : w.cell? x with
    | none => rw [hc] at h; exact h.elim
    | some v =>
     rw [hc] at h
     refine ⟨v, ?_, h⟩
     simp only [Bool.false_eq_true, if_false, load, Sem.run, hc]
 ·
  exact h.elim
theorem stsK_run {P : Program} : ∀ (vs : List Value) (w : World) (a : Addr) (j : Nat) (K : Bool → World → Prop), a.spot = none → stsK w (a.add j) vs K → ∃ w', (storeCells a vs j).run P w = .ok () w' ∧ K true w'
 | [], w, a, j, K, _, h => ⟨w, rfl, h⟩
 | v :: vs, w, a, j, K, hs, h => by
  obtain ⟨b, o, sp⟩ := a
  simp only at hs
  subst hs
  simp only [stsK, stK, addr_add] at h
  cases hc : w.cell? ⟨b, o + j, none⟩ with
  | none => rw [hc] at h; exact h.elim
  | some u =>
   rw [hc] at h
   simp only at h
   split at h
   ·
    exact h.elim
   ·
    rename_i hn
    have hf : w.frozen? ⟨b, o + j, none⟩ = false := by
     cases hf : w.frozen? ⟨b, o + j, none⟩ with
     | false => rfl
     | true => exact absurd (.inl hf) hn
    have ho : oneC v = true := by
     cases ho : oneC v with
     | true => rfl
     | false => exact absurd (.inr ho) hn
    have e : (store ⟨b, o + j, none⟩ v).run P w = .ok () (w.setCell ⟨b, o + j, none⟩ v) := by
     unfold store
     cases v <;> first
      | (simp [oneC] at ho; done)
      | (simp only [Sem.run, hc, hf, Bool.false_eq_true, if_false])
    have ih := stsK_run (P := P) vs (w.setCell ⟨b, o + j, none⟩ v) ⟨b, o, none⟩ (j + 1) K rfl (by rw [addr_add, ← Nat.add_assoc]; exact h)
    obtain ⟨w', h1, h2⟩ := ih
    refine ⟨w', ?_, h2⟩
    simp only [storeCells, Sem.run_bind, addr_add, e, Result.andThen_ok, h1]
theorem stK_spot {w : World} {a : Addr} {v : Value} {K : Bool → World → Prop} (h : stK w a v K) : a.spot = none := by
 unfold stK World.cell? at h
 cases hs : a.spot with
 | none => rfl
 | some x =>
  simp only [hs, Option.isSome_some, if_true] at h
  split at h
  ·
   rename_i hh; split at hh <;> cases hh
  ·
   exact h.elim
theorem storeK_run {P : Program} {t : TypeId} {a v : Value} {w : World} {K : Bool → World → Prop} (h : storeK P t a v w K) : ∃ w', (Instr.storeAt t a v).run P w = .ok () w' ∧ K true w' := by
 unfold storeK at h
 split at h
 ·
  rename_i x
  split at h
  ·
   rename_i hz
   unfold Instr.storeAt storeVar
   simp only [Instr.sureAddr, pure_bind, Sem.run_bind, run_sizeOf hz, Result.andThen_ok]
   rw [if_neg (by simp)]
   cases hv : v.cells.toList with
   | nil =>
    rw [hv] at h
    exact ⟨w, rfl, h⟩
   | cons u us =>
    rw [hv] at h
    have hsp := stK_spot h
    exact stsK_run (P := P) (u :: us) w x 0 K hsp h
  ·
   exact h.elim
 ·
  exact h.elim

theorem cellK_of {w : World} {a : Addr} {v : Value} {F : Bool → Value → Prop} (h : w.cell? a = some v) : cellK w a F = F true v := by simp [cellK, h]
theorem cellsK_of {w : World} {cs : List Value} {b o n : Nat} {F : Bool → List Value → Prop} (h : ∀ i, ∀ h : i < cs.length, w.cell? ⟨b, o + i, none⟩ = some cs[i]) (hn : n = cs.length) : cellsK w ⟨b, o, none⟩ n F = F true cs := by
 subst hn
 simp [cellsK, readC_of cs o h]
theorem Row.cellK {w : World} {a : Option Addr} {cs : List Value} (h : Row w a cs) {m : Nat} (hm : m < cs.length) (F : Bool → Value → Prop) : Eng.cellK w ⟨ab a, ao a + m, none⟩ F = F true cs[m] := cellK_of (h.2 m hm)
def lstK (C : List Value) (j : Nat) (F : Bool → Value → Prop) : Prop := match C[j]? with | some v => F true v | none => False
theorem lstK_of {C : List Value} {j : Nat} {v : Value} {F : Bool → Value → Prop} (h : C[j]? = some v) : lstK C j F = F true v := by simp [lstK, h]
theorem stK_blk {w : World} {b i : Nat} {v : Value} {C : List Value} {K : Bool → World → Prop} (hb : Blk w b C) (hi : i < C.length) (hv : oneC v = true) : stK w ⟨b, i, none⟩ v K = K true (setB w b (C.set i v)) := by
 unfold stK
 rw [hb.cell (i := i) (v := C[i]) (by simp), hb.frozen, hv, setCell_eq hb]
 simp
theorem stsK_blk {b : Nat} {K : Bool → World → Prop} : ∀ (vs : List Value) (w : World) (i : Nat) (C : List Value), Blk w b C → i + vs.length ≤ C.length → (∀ v ∈ vs, oneC v = true) →
  stsK w ⟨b, i, none⟩ vs K = K true (if vs = [] then w else setB w b (setL C i vs))
 | [], w, i, C, _, _, _ => by simp [stsK]
 | v :: vs, w, i, C, hb, hi, hv => by
  simp only [List.length_cons] at hi
  simp only [stsK, addr_add]
  rw [stK_blk (i := i) (v := v) hb (by omega) (hv v (by simp))]
  rw [stsK_blk vs _ _ _ (setB_heap hb) (by simp; omega) (fun u hu => hv u (by simp [hu]))]
  simp only [List.cons_ne_nil, if_false, setL, setB_setB]
  cases vs with
  | nil => simp [setL]
  | cons _ _ => simp

abbrev Rg := List (Nat × Value)

def fd : Rg → Nat → Option Value
 | [], _ => none
 | (s, v) :: r, t => match Nat.beq s t with | true => some v | false => fd r t

theorem fd_cons (s t : Nat) (v : Value) (r : Rg) : fd ((s, v) :: r) t = if s = t then some v else fd r t := by
 unfold fd
 by_cases h : s = t
 ·
  subst h
  rw [Nat.beq_refl, if_pos rfl]
 ·
  rw [if_neg h]
  have : Nat.beq s t = false := by
   cases hb : Nat.beq s t with
   | true => exact absurd (Nat.eq_of_beq_eq_true hb) h
   | false => rfl
  rw [this]
  cases r <;> rfl

def lk (ρ : Rg) (t : Nat) (K : Value → Prop) : Prop :=
 match fd ρ t with
 | some v => K v
 | none => False


def evK (ρ : Rg) (x : Operand) (K : Value → Prop) : Prop :=
 match x with
 | .tmp t => lk ρ t K
 | .const v => K v
 | .global g => K (.pointer (some ⟨g, 0, none⟩))
 | .func f => K (.func (.func f) #[] #[])

def evsK (ρ : Rg) : List Operand → (List Value → Prop) → Prop
 | [], K => K []
 | x :: xs, K => evK ρ x fun v => evsK ρ xs fun vs => K (v :: vs)

def evpK (ρ : Rg) : List (Nat × Operand) → (List (Nat × Value) → Prop) → Prop
 | [], K => K []
 | (i, x) :: xs, K => evK ρ x fun v => evpK ρ xs fun vs => K ((i, v) :: vs)

def evoK (ρ : Rg) : Option Operand → (Option Value → Prop) → Prop
 | none, K => K none
 | some x, K => evK ρ x fun v => K (some v)

structure Ok (n : Nat) (a : Act) (ρ : Rg) : Prop where
 defers : a.defers = []
 size : a.tmps.size = n
 get : ∀ t v, fd ρ t = some v → a.tmps[t]? = some v

theorem lk_sound {n : Nat} {a : Act} {ρ : Rg} (h : Ok n a ρ) {t : Nat} {K : Value → Prop} (hk : lk ρ t K) : K (a.tmps.getD t undef) := by
 unfold lk at hk
 split at hk
 ·
  rename_i v hv
  have := h.get t v hv
  rw [Array.getD_eq_getD_getElem?, this]
  exact hk
 ·
  exact hk.elim

theorem lk_sound' {n : Nat} {a : Act} {ρ : Rg} (h : Ok n a ρ) {t : Nat} {K : Value → Prop} (hk : lk ρ t K) : ∃ v, a.tmps[t]? = some v ∧ K v := by
 unfold lk at hk
 split at hk
 ·
  rename_i v hv
  exact ⟨v, h.get t v hv, hk⟩
 ·
  exact hk.elim

theorem evK_sound {n : Nat} {a : Act} {ρ : Rg} (h : Ok n a ρ) {x : Operand} {K : Value → Prop} (hk : evK ρ x K) : K (a.eval x) := by
 cases x with
 | tmp t => exact lk_sound h hk
 | const v => exact hk
 | global g => exact hk
 | func f => exact hk

theorem evsK_sound {n : Nat} {a : Act} {ρ : Rg} (h : Ok n a ρ) : ∀ {xs : List Operand} {K : List Value → Prop}, evsK ρ xs K → K (xs.map a.eval)
 | [], _, hk => hk
 | x :: xs, K, hk => by
  have h1 := evsK_sound h (evK_sound h (x := x) (K := fun v => evsK ρ xs fun vs => K (v :: vs)) hk)
  exact h1

theorem evpK_sound {n : Nat} {a : Act} {ρ : Rg} (h : Ok n a ρ) : ∀ {xs : List (Nat × Operand)} {K : List (Nat × Value) → Prop}, evpK ρ xs K → K (xs.map fun (i, x) => (i, a.eval x))
 | [], _, hk => hk
 | (i, x) :: xs, K, hk => by
  have h1 := evpK_sound h (evK_sound h (x := x) (K := fun v => evpK ρ xs fun vs => K ((i, v) :: vs)) hk)
  exact h1

theorem evoK_sound {n : Nat} {a : Act} {ρ : Rg} (h : Ok n a ρ) {x : Option Operand} {K : Option Value → Prop} (hk : evoK ρ x K) : K (x.map a.eval) := by
 cases x with
 | none => exact hk
 | some x => exact evK_sound h (K := fun v => K (some v)) hk

def put (ρ : Rg) (d : Option Tmp) (v : Value) : Rg :=
 match d with
 | some d => (d, v) :: ρ
 | none => ρ

theorem put_ok {n : Nat} {a : Act} {ρ : Rg} (h : Ok n a ρ) {d : Option Tmp} (hd : d.all (· < n) = true) (v : Value) : Ok n (a.put d v) (put ρ d v) := by
 cases d with
 | none => exact h
 | some d =>
  simp at hd
  refine ⟨h.defers, by simp [Act.put, h.size], fun t u hu => ?_⟩
  simp only [put, fd_cons] at hu
  by_cases e : d = t
  ·
   subst e
   simp at hu
   subst hu
   simp [Act.put, h.size, hd]
  ·
   rw [if_neg e] at hu
   have := h.get t u hu
   simp only [Act.put, Array.getElem?_setIfInBounds]
   rw [if_neg e]
   exact this

def resK {α : Type} : Result α → (α → World → Prop) → Prop
 | .ok v w, K => K v w
 | .halt _ _, _ => False

def runK {α : Type} (P : Program) (s : Sem α) (w : World) (K : α → World → Prop) : Prop := resK (s.run P w) K

theorem runK_pure {α : Type} (P : Program) (v : α) (w : World) (K : α → World → Prop) : runK P (pure v) w K = K v w := rfl
theorem runK_mono {α : Type} {P : Program} {s : Sem α} {w : World} {K K' : α → World → Prop} (h : runK P s w K) (hk : ∀ v w', K v w' → K' v w') : runK P s w K' := by
 unfold runK at *
 cases hs : s.run P w with
 | ok v w' => rw [hs] at h; exact hk _ _ h
 | halt x w' => rw [hs] at h; exact h.elim

abbrev Kv := Bool → Value → World → Prop

def callK (P : Program) (f : FuncId) (args : Array Value) (w : World) (K : Kv) : Prop :=
 runK P (callFunc f args) w fun n w' =>
  match n with
  | .enter g xs => Calls P g xs w' (fun e w'' => ∃ v, e = .returned v ∧ K true v w'')
  | .value v => K true v w'
  | _ => False

def nextK (P : Program) (s : Sem Next) (w : World) (K : Kv) : Prop :=
 runK P s w fun n w' =>
  match n with
  | .enter g xs => Calls P g xs w' (fun e w'' => ∃ v, e = .returned v ∧ K true v w'')
  | .value v => K true v w'
  | .skip => K true undef w'
  | _ => False

def opK (_τ : Bool) (P : Program) (o : Oper) (ρ : Rg) (w : World) (K : Kv) : Prop :=
 match o.op with
 | .move x | .assign x => evK ρ x fun v => K true v w
 | .pick c a b => evK ρ c fun c => evK ρ a fun x => evK ρ b fun y => match c with | .bool t => K true (bif t then x else y) w | _ => False
 | .alloc t => runK P (Instr.alloc t true (.tuple #[])) w (K true)
 | .box t x => evK ρ x fun v => runK P (Instr.box t v) w (K true)
 | .build t ps => evpK ρ ps.toList fun vs => runK P (Instr.build t vs.toArray) w (K true)
 | .buildSlice t n ps => evpK ρ ps.toList fun vs => runK P (Instr.buildSlice t n vs.toArray) w (K true)
 | .load t a => evK ρ a fun a => loadK P t a w K
 | .store t a x => evK ρ a fun a => evK ρ x fun x => storeK P t a x w fun τ w' => K τ undef w'
 | .nilCheck x => evK ρ x fun x => match x with | .pointer (some a) => K true (.pointer (some a)) w | .func (.func f) l c => K true (.func (.func f) l c) w | _ => False
 | .binOp op t x y _ => evK ρ x fun u => evK ρ y fun v => runK P (do eqGuard op t x y u v; binOp op t u v) w (K true)
 | .unOp op _ x => evK ρ x fun x => runK P (Op.unary op x) w (K true)
 | .convert s d x => evK ρ x fun x => runK P (convert s d x) w (K true)
 | .makeInterface t x => evK ρ x fun x => runK P (Instr.makeInterface t x) w (K true)
 | .makeFunc fn first captured => evsK ρ first.toList fun f => evsK ρ captured.toList fun c => K true (.func fn f.toArray c.toArray) w
 | .makeMap t r => evoK ρ r fun r => runK P (Instr.makeMap t r) w (K true)
 | .makeSlice t l c => evK ρ l fun l => evK ρ c fun c => runK P (Instr.makeSlice t l c) w (K true)
 | .slice t x lo hi mx => evK ρ x fun x => evoK ρ lo fun lo => evoK ρ hi fun hi => evoK ρ mx fun mx => runK P (Instr.sliceAt t x lo hi mx) w (K true)
 | .fieldAddr s x f => evK ρ x fun x => runK P (Instr.fieldAt s x f) w (K true)
 | .field t x f => evK ρ x fun x => runK P (Instr.field t x f) w (K true)
 | .indexAddr t x i => evK ρ x fun x => evK ρ i fun i => runK P (Instr.indexAt t x i) w (K true)
 | .index t x i => evK ρ x fun x => evK ρ i fun i => runK P (Instr.index t x i) w (K true)
 | .lookup t x i ok => evK ρ x fun x => evK ρ i fun i => runK P (Instr.lookup t x i ok) w (K true)
 | .mapUpdate t m k x => evK ρ m fun m => evK ρ k fun k => evK ρ x fun x => runK P (Instr.mapUpdate t m k x) w fun _ w' => K true undef w'
 | .insert t m k x => evK ρ m fun m => evK ρ k fun k => evK ρ x fun x => runK P (Instr.mapUpdate t m k x) w fun _ w' => K true undef w'
 | .range t x => evK ρ x fun x => runK P (Instr.range t x) w (K true)
 | .next x s => evK ρ x fun x => runK P (Instr.next x s o.type) w (K true)
 | .entry x => evK ρ x fun x => runK P (Instr.entry x) w (K true)
 | .typeAssert x xt at_ ok => evK ρ x fun x => runK P (Instr.typeAssert x xt at_ ok) w (K true)
 | .extract t i => evK ρ t fun t => runK P (Instr.extract t i) w (K true)
 | .call c => match c.callee with
  | .value f => evK ρ f fun f => evsK ρ c.args.toList fun args =>
   match f with
   | .func (.func g) first captured => callK P g (first ++ args.toArray ++ captured) w K
   | _ => False
  | .builtin b => evsK ρ c.args.toList fun args => nextK P (builtin b c.argTypes o.type (c.args.map fun | .const _ => true | _ => false) args.toArray) w K
  | .invoke recv name => evK ρ recv fun r => evsK ρ c.args.toList fun args => nextK P (callMethod r name args.toArray) w K
 | _ => False

theorem wp_of_runK {P : Program} {o : Oper} {a : Act} {w : World} {s : Sem Value} {K : Value → World → Prop} {next : Act → World → Prop} {Q : Exit → Act → World → Prop}
  (he : execOp a.eval o = (do pure (.value (← s)))) (h : runK P s w K) (hn : ∀ v w', K v w' → next (a.put o.dst v) w') : o.wp P a w next Q := by
 unfold Oper.wp
 rw [he]
 unfold runK at h
 rw [Sem.run_bind]
 cases hs : s.run P w with
 | ok v w' => rw [hs] at h; exact hn _ _ h
 | halt x w' => rw [hs] at h; exact h.elim

theorem wp_of_runU {P : Program} {o : Oper} {a : Act} {w : World} {s : Sem Unit} {K : Value → World → Prop} {next : Act → World → Prop} {Q : Exit → Act → World → Prop}
  (he : execOp a.eval o = (do s; pure .skip)) (h : runK P s w fun _ w' => K undef w') (hn : ∀ v w', K v w' → next (a.put o.dst v) w') : o.wp P a w next Q := by
 unfold Oper.wp
 rw [he]
 unfold runK at h
 rw [Sem.run_bind]
 cases hs : s.run P w with
 | ok v w' => rw [hs] at h; exact hn _ _ h
 | halt x w' => rw [hs] at h; exact h.elim

theorem upon_of_next {P : Program} {o : Oper} {a : Act} {r : Result Next} {K : Kv} {next : Act → World → Prop} {Q : Exit → Act → World → Prop}
  (h : resK r fun n w' =>
   match n with
   | .enter g xs => Calls P g xs w' (fun e w'' => ∃ v, e = .returned v ∧ K true v w'')
   | .value v => K true v w'
   | .skip => K true undef w'
   | _ => False) (hn : ∀ v w', K true v w' → next (a.put o.dst v) w') : o.upon P a next Q r := by
 cases r with
 | halt x w' => exact h.elim
 | ok n w' =>
  cases n with
  | value v => exact hn _ _ h
  | skip => exact hn _ _ h
  | enter g xs =>
   refine Calls.mono (h : Calls P g xs w' _) fun e w'' he => ?_
   obtain ⟨v, rfl, hk⟩ := he
   exact hn _ _ hk
  | _ => exact (h : False).elim

theorem wp_of_nextK {P : Program} {o : Oper} {a : Act} {w : World} {s : Sem Next} {K : Kv} {next : Act → World → Prop} {Q : Exit → Act → World → Prop}
  (he : execOp a.eval o = s) (h : nextK P s w K) (hn : ∀ v w', K true v w' → next (a.put o.dst v) w') : o.wp P a w next Q := by
 unfold Oper.wp
 rw [he]
 exact upon_of_next h hn

theorem nextK_of_callK {P : Program} {f : FuncId} {args : Array Value} {w : World} {K : Kv} (h : callK P f args w K) : nextK P (callFunc f args) w K := by
 refine runK_mono h fun n w' hk => ?_
 cases n <;> first | exact hk | exact hk.elim

set_option maxHeartbeats 2000000 in
theorem op_sound {τ : Bool} {n : Nat} {P : Program} {o : Oper} {a : Act} {ρ : Rg} {w : World} {K : Kv} {next : Act → World → Prop} {Q : Exit → Act → World → Prop}
  (hok : Ok n a ρ) (h : opK τ P o ρ w K) (hn : ∀ v w', K true v w' → next (a.put o.dst v) w') : o.wp P a w next Q := by
 obtain ⟨dst, op, ty, pos, after, guard⟩ := o
 cases op with
 | move x => exact hn _ _ (evK_sound hok (K := fun v => K true v w) h)
 | assign x => exact hn _ _ (evK_sound hok (K := fun v => K true v w) h)
 | pick c x y =>
  have h1 := evK_sound hok h
  have h2 := evK_sound hok h1
  have h3 := evK_sound hok h2
  unfold Oper.wp
  simp only [execOp]
  cases hc : a.eval c with
  | bool t => rw [hc] at h3; cases t <;> exact hn _ _ h3
  | _ => rw [hc] at h3; exact h3.elim
 | alloc t => exact wp_of_runK (s := Instr.alloc t true (.tuple #[])) rfl h hn
 | box t x => exact wp_of_runK (s := Instr.box t (a.eval x)) rfl (evK_sound hok h) hn
 | build t ps =>
  have h1 := evpK_sound hok h
  refine wp_of_runK (s := Instr.build t (ps.map fun (i, x) => (i, a.eval x))) rfl ?_ hn
  have e : (ps.map fun (i, x) => (i, a.eval x)) = (ps.toList.map fun (i, x) => (i, a.eval x)).toArray := by
   rw [← Array.toList_map, Array.toArray_toList]
  exact e ▸ h1
 | buildSlice t m ps =>
  have h1 := evpK_sound hok h
  refine wp_of_runK (s := Instr.buildSlice t m (ps.map fun (i, x) => (i, a.eval x))) rfl ?_ hn
  have e : (ps.map fun (i, x) => (i, a.eval x)) = (ps.toList.map fun (i, x) => (i, a.eval x)).toArray := by
   rw [← Array.toList_map, Array.toArray_toList]
  exact e ▸ h1
 | load t x =>
  obtain ⟨v, h1, h2⟩ := loadK_run (evK_sound hok h)
  exact wp_of_runK (s := Instr.loadAt t (a.eval x)) rfl (by unfold runK; rw [h1]; exact h2) hn
 | store t x y =>
  obtain ⟨w', h1, h2⟩ := storeK_run (evK_sound hok (evK_sound hok h))
  exact wp_of_runU (s := Instr.storeAt t (a.eval x) (a.eval y)) rfl (by unfold runK; rw [h1]; exact h2) hn
 | nilCheck x =>
  have h1 := evK_sound hok h
  unfold Oper.wp
  simp only [execOp]
  split at h1
  ·
   rename_i b hb; rw [hb]; exact hn _ _ h1
  ·
   rename_i f l c hb; rw [hb]; exact hn _ _ h1
  ·
   exact h1.elim
 | binOp op t x y yt => exact wp_of_runK (s := do eqGuard op t x y (a.eval x) (a.eval y); binOp op t (a.eval x) (a.eval y)) rfl (evK_sound hok (evK_sound hok h)) hn
 | unOp op t x => exact wp_of_runK (s := Op.unary op (a.eval x)) rfl (evK_sound hok h) hn
 | convert s d x => exact wp_of_runK (s := Go.convert s d (a.eval x)) rfl (evK_sound hok h) hn
 | makeInterface t x => exact wp_of_runK (s := Instr.makeInterface t (a.eval x)) rfl (evK_sound hok h) hn
 | makeFunc fn first captured =>
  have h1 := evsK_sound hok (evsK_sound hok h)
  simp only [← Array.toList_map, Array.toArray_toList] at h1
  exact hn _ _ h1
 | makeMap t r => exact wp_of_runK (s := Instr.makeMap t (r.map a.eval)) rfl (evoK_sound hok h) hn
 | makeSlice t l c => exact wp_of_runK (s := Instr.makeSlice t (a.eval l) (a.eval c)) rfl (evK_sound hok (evK_sound hok h)) hn
 | slice t x lo hi mx => exact wp_of_runK (s := Instr.sliceAt t (a.eval x) (lo.map a.eval) (hi.map a.eval) (mx.map a.eval)) rfl (evoK_sound hok (evoK_sound hok (evoK_sound hok (evK_sound hok h)))) hn
 | fieldAddr s x f => exact wp_of_runK (s := Instr.fieldAt s (a.eval x) f) rfl (evK_sound hok h) hn
 | field s x f => exact wp_of_runK (s := Instr.field s (a.eval x) f) rfl (evK_sound hok h) hn
 | indexAddr t x i => exact wp_of_runK (s := Instr.indexAt t (a.eval x) (a.eval i)) rfl (evK_sound hok (evK_sound hok h)) hn
 | index t x i => exact wp_of_runK (s := Instr.index t (a.eval x) (a.eval i)) rfl (evK_sound hok (evK_sound hok h)) hn
 | lookup t x i c => exact wp_of_runK (s := Instr.lookup t (a.eval x) (a.eval i) c) rfl (evK_sound hok (evK_sound hok h)) hn
 | mapUpdate t m k x => exact wp_of_runU (s := Instr.mapUpdate t (a.eval m) (a.eval k) (a.eval x)) rfl (evK_sound hok (evK_sound hok (evK_sound hok h))) hn
 | insert t m k x => exact wp_of_runU (s := Instr.mapUpdate t (a.eval m) (a.eval k) (a.eval x)) rfl (evK_sound hok (evK_sound hok (evK_sound hok h))) hn
 | range t x => exact wp_of_runK (s := Instr.range t (a.eval x)) rfl (evK_sound hok h) hn
 | next x s => exact wp_of_runK (s := Instr.next (a.eval x) s ty) rfl (evK_sound hok h) hn
 | entry x => exact wp_of_runK (s := Instr.entry (a.eval x)) rfl (evK_sound hok h) hn
 | typeAssert x xt at_ c => exact wp_of_runK (s := Instr.typeAssert (a.eval x) xt at_ c) rfl (evK_sound hok h) hn
 | extract t i => exact wp_of_runK (s := Instr.extract (a.eval t) i) rfl (evK_sound hok h) hn
 | call c =>
  obtain ⟨callee, args, ats⟩ := c
  cases callee with
  | value f =>
   have h1 := evsK_sound hok (evK_sound hok h)
   unfold Oper.wp
   simp only [execOp, resolve]
   split at h1
   ·
    rename_i g first captured hf
    rw [hf]
    simp only [Deferred.ofValue, pure_bind, invoke]
    simp only [← Array.toList_map, Array.toArray_toList] at h1
    exact upon_of_next (nextK_of_callK h1) hn
   ·
    exact h1.elim
  | builtin b =>
   have h1 := evsK_sound hok h
   simp only [← Array.toList_map, Array.toArray_toList] at h1
   exact wp_of_nextK rfl h1 hn
  | invoke r name =>
   have h1 := evsK_sound hok (evK_sound hok h)
   simp only [← Array.toList_map, Array.toArray_toList] at h1
   refine wp_of_nextK (s := callMethod (a.eval r) name (args.map a.eval)) ?_ h1 hn
   have e0 : (#[a.eval r] ++ args.map a.eval)[0]? = some (a.eval r) := by
    rw [Array.getElem?_append_left (by simp)]; rfl
   have e1 : (#[a.eval r] ++ args.map a.eval).extract 1 (#[a.eval r] ++ args.map a.eval).size = args.map a.eval := by
    apply Array.toList_inj.1
    simp
    exact List.take_of_length_le (by simp)
   simp only [execOp, resolve, pure_bind, invoke, e0, e1]
 | _ => exact (h : False).elim


def gdK (g : Value) (want : Bool) (A B : Bool → Prop) : Prop :=
 match g with
 | .bool b => if b = want then A true else B true
 | _ => B true

abbrev Kr := Bool → Rg → World → Prop

def opsK (τ : Bool) (P : Program) (all : Array Oper) : List Oper → Rg → World → Kr → Prop
 | [], ρ, w, K => K true ρ w
 | o :: r, ρ, w, K =>
  match o.guard with
  | none => opK τ P o ρ w fun τ v w' => opsK τ P all r (put ρ o.dst v) w' K
  | some (j, want) =>
   match (all[j]?).bind (·.dst) with
   | some t => lk ρ t fun g => gdK g want (fun τ => opK τ P o ρ w fun τ v w' => opsK τ P all r (put ρ o.dst v) w' K) (fun τ => opsK τ P all r (put ρ o.dst undef) w K)
   | none => False

theorem wanted_none {o : Oper} (h : o.guard = none) (y : Nat → Option Bool) : Region.wanted o y = true := by
 simp [Region.wanted, h]

theorem ops_sound {n : Nat} {P : Program} {all : Array Oper} {Q : Exit → Act → World → Prop} {K : Kr}
  (hK : ∀ a ρ w, Ok n a ρ → K true ρ w → Q .normal a w) : ∀ (l : List Oper) (τ : Bool) (a : Act) (ρ : Rg) (w : World),
  (∀ o ∈ l, o.dst.all (· < n) = true) → Ok n a ρ → opsK τ P all l ρ w K → wpList P all Q l a w
 | [], _, a, ρ, w, _, hok, h => hK a ρ w hok h
 | o :: r, τ, a, ρ, w, hd, hok, h => by
  have hdo : o.dst.all (· < n) = true := hd o (by simp)
  have hdr : ∀ x ∈ r, x.dst.all (· < n) = true := fun x hx => hd x (by simp [hx])
  have go : ∀ τ v w', opsK τ P all r (put ρ o.dst v) w' K → wpList P all Q r (a.put o.dst v) w' := fun τ v w' h' =>
   ops_sound hK r τ _ _ w' hdr (put_ok hok hdo v) h'
  have run : ∀ τ, (opK τ P o ρ w fun τ v w' => opsK τ P all r (put ρ o.dst v) w' K) → o.wp P a w (wpList P all Q r) Q := fun τ h' =>
   op_sound hok h' (go true)
  unfold opsK at h
  unfold wpList
  cases hg : o.guard with
  | none =>
   rw [hg] at h
   rw [if_pos (wanted_none hg _)]
   exact .inl (run _ h)
  | some jw =>
   obtain ⟨j, want⟩ := jw
   rw [hg] at h
   simp only at h
   cases ht : (all[j]?).bind (·.dst) with
   | none => rw [ht] at h; exact h.elim
   | some t =>
    rw [ht] at h
    obtain ⟨g, hget, hgd⟩ := lk_sound' hok h
    have hy : yielded all a.tmps j = match g with | .bool b => some b | _ => none := by
     unfold yielded
     rw [ht]
     simp only [Option.bind_some, hget]
     cases g <;> rfl
    have hwant : Region.wanted o (yielded all a.tmps) = (yielded all a.tmps j == some want) := by
     simp [Region.wanted, hg]
    rw [hwant, hy]
    cases g with
    | bool b =>
     simp only [gdK] at hgd
     by_cases hb : b = want
     ·
      subst hb
      rw [if_pos rfl] at hgd
      simp only [BEq.rfl, if_true]
      exact .inl (run _ hgd)
     ·
      rw [if_neg hb] at hgd
      have : ((some b : Option Bool) == some want) = false := by
       cases b <;> cases want <;> simp_all
      simp only [this, Bool.false_eq_true, if_false]
      exact go _ _ _ hgd
    | _ => exact go _ _ _ hgd


def cdK (v : Value) (A B : Bool → Prop) : Prop :=
 match v with
 | .bool b => (b = true → A true) ∧ (b = false → B true)
 | _ => False

abbrev Post := Bool → Exit → Rg → World → Prop

def thenQ (K : Kr) (Q : Post) : Post := fun τ e ρ w =>
 match e with
 | .normal => K τ ρ w
 | e => Q τ e ρ w

def blockQ (id : Nat) (Q : Post) : Post := fun τ e ρ w =>
 match e with
 | .exit i => if i = id then Q τ .normal ρ w else Q τ (.exit i) ρ w
 | e => Q τ e ρ w

def Sub (ρ' ρ : Rg) : Prop := ∀ t v, fd ρ' t = some v → fd ρ t = some v

theorem Ok.sub {n : Nat} {a : Act} {ρ ρ' : Rg} (h : Ok n a ρ) (hs : Sub ρ' ρ) : Ok n a ρ' := ⟨h.defers, h.size, fun t v hv => h.get t v (hs t v hv)⟩

def LoopK (body : Rg → World → Post → Prop) (ρ : Rg) (w : World) (Q : Post) : Prop :=
 ∃ I : Nat → Rg → World → Prop, (∃ m ρ₀, Sub ρ₀ ρ ∧ I m ρ₀ w) ∧
  ∀ m ρ w, I m ρ w → body ρ w (thenQ (fun _ ρ' w' => ∃ m' ρ₀, m' < m ∧ Sub ρ₀ ρ' ∧ I m' ρ₀ w') Q)

def Lift (n : Nat) (Q : Post) : Exit → Act → World → Prop := fun e a w => ∃ ρ, Ok n a ρ ∧ Q true e ρ w

def RawK (P : Program) (n : Nat) (c : Code) (ρ : Rg) (w : World) (Q : Post) : Prop := ∀ a, Ok n a ρ → c.wp P (Lift n Q) a w

def DrawK (P : Program) (n id : Nat) (ops : Array Oper) (ρ : Rg) (w : World) (Q : Post) : Prop := RawK P n (.region id ops true) ρ w Q

def scopeQ (Q : Post) : Post := fun τ e ρ w => match e with
 | .goto _ => False
 | e => Q τ e ρ w

def den (τ : Bool) (P : Program) (n : Nat) : Code → Rg → World → Post → Prop
 | .skip, ρ, w, Q => Q true .normal ρ w
 | .region id ops draw, ρ, w, Q => bif draw then DrawK P n id ops ρ w Q else opsK τ P ops ops.toList ρ w fun τ => Q τ .normal
 | .seq a b, ρ, w, Q => den τ P n a ρ w (thenQ (fun τ ρ' w' => den τ P n b ρ' w' Q) Q)
 | .cond c a b, ρ, w, Q => evK ρ c fun v => cdK v (fun τ => den τ P n a ρ w Q) (fun τ => den τ P n b ρ w Q)
 | .block id c, ρ, w, Q => den τ P n c ρ w (blockQ id Q)
 | .loop c, ρ, w, Q => LoopK (den true P n c) ρ w Q
 | .exit id, ρ, w, Q => Q true (.exit id) ρ w
 | .ret, ρ, w, Q => Q true .ret ρ w
 | .scope c, ρ, w, Q => den τ P n c ρ w (scopeQ Q)
 | .label _, ρ, w, Q => Q true .normal ρ w
 | c, ρ, w, Q => RawK P n c ρ w Q

def okC (n : Nat) : Code → Bool
 | .region _ ops _ => ops.toList.all fun o => o.dst.all (· < n)
 | .seq a b => okC n a && okC n b
 | .cond _ a b => okC n a && okC n b
 | .block _ c => okC n c
 | .loop c => okC n c
 | .scope c => okC n c
 | _ => true

theorem wp_region_list' {P : Program} {id : Nat} {ops : Array Oper} {Q : Exit → Act → World → Prop} {a : Act} {w : World}
  (h : wpList P ops Q ops.toList a w) : (Code.region id ops false).wp P Q a w := wp_region_list h

theorem least {p : Nat → Prop} : ∀ m, p m → ∃ m, p m ∧ ∀ k, p k → m ≤ k := by
 intro m
 induction m using Nat.strongRecOn with
 | _ m ih =>
  intro h
  by_cases hx : ∃ k, k < m ∧ p k
  ·
   obtain ⟨k, hk, hp⟩ := hx
   exact ih k hk hp
  ·
   exact ⟨m, h, fun k hk => Nat.le_of_not_lt fun hlt => hx ⟨k, hlt, hk⟩⟩

theorem den_sound {P : Program} {n : Nat} : ∀ (c : Code), okC n c = true → ∀ (τ : Bool) (a : Act) (ρ : Rg) (w : World) (Q : Post), Ok n a ρ → den τ P n c ρ w Q → c.wp P (Lift n Q) a w
 | .skip, _, τ, a, ρ, w, Q, hok, h => wp_skip ⟨ρ, hok, h⟩
 | .region id ops draw, hc, τ, a, ρ, w, Q, hok, h => by
  cases draw with
  | true => exact (h : DrawK P n id ops ρ w Q) a hok
  | false =>
   refine wp_region_list' (ops_sound (K := fun τ => Q τ .normal) (fun a ρ w ho hk => ⟨ρ, ho, hk⟩) _ τ a ρ w ?_ hok h)
   intro o ho
   exact List.all_eq_true.1 hc o ho
 | .seq x y, hc, τ, a, ρ, w, Q, hok, h => by
  simp only [okC, Bool.and_eq_true] at hc
  refine wp_seq (wp_mono (den_sound x hc.1 _ a ρ w _ hok h) ?_)
  intro e a' w' ⟨ρ', hok', hq⟩
  cases e with
  | normal => exact den_sound y hc.2 _ a' ρ' w' Q hok' hq
  | _ => exact ⟨ρ', hok', hq⟩
 | .cond c x y, hc, τ, a, ρ, w, Q, hok, h => by
  simp only [okC, Bool.and_eq_true] at hc
  have h1 := evK_sound hok h
  unfold cdK at h1
  split at h1
  ·
   rename_i b hb
   exact wp_cond_split hb (fun e => den_sound x hc.1 _ a ρ w Q hok (h1.1 e)) (fun e => den_sound y hc.2 _ a ρ w Q hok (h1.2 e))
  ·
   exact h1.elim
 | .block id c, hc, τ, a, ρ, w, Q, hok, h => by
  refine wp_block (wp_mono (den_sound c hc _ a ρ w _ hok h) ?_)
  intro e a' w' ⟨ρ', hok', hq⟩
  cases e with
  | exit i =>
   simp only [blockQ] at hq
   simp only [Exit.inBlock]
   by_cases hi : i = id
   ·
    rw [if_pos hi] at hq ⊢; exact ⟨ρ', hok', hq⟩
   ·
    rw [if_neg hi] at hq ⊢; exact ⟨ρ', hok', hq⟩
  | _ => exact ⟨ρ', hok', hq⟩
 | .loop c, hc, τ, a, ρ, w, Q, hok, h => by
  obtain ⟨I, ⟨m₀, ρ₀, hs₀, hI₀⟩, round⟩ := h
  classical
  let J : Act → World → Nat → Prop := fun a w m => ∃ ρ, Ok n a ρ ∧ I m ρ w
  have lst : ∀ a w, (∃ m, J a w m) → ∃ m, J a w m ∧ ∀ k, J a w k → m ≤ k := fun a w ⟨m, hm⟩ => least m hm
  refine wp_loop (fun a w => ∃ m, J a w m) (fun a w => if h : ∃ m, J a w m then (lst a w h).choose else 0) ⟨m₀, ρ₀, hok.sub hs₀, hI₀⟩ ?_
  intro a w hex
  obtain ⟨ρ, hokr, hI⟩ := (lst a w hex).choose_spec.1
  refine wp_mono (den_sound c hc _ a ρ w _ hokr (round _ ρ w hI)) ?_
  intro e a' w' ⟨ρ', hok', hq⟩
  cases e with
  | normal =>
   obtain ⟨m', ρ₁, hlt, hs, hI'⟩ := hq
   have hex' : ∃ m, J a' w' m := ⟨m', ρ₁, hok'.sub hs, hI'⟩
   refine ⟨hex', ?_⟩
   simp only [dif_pos hex, dif_pos hex']
   exact Nat.lt_of_le_of_lt ((lst a' w' hex').choose_spec.2 m' ⟨ρ₁, hok'.sub hs, hI'⟩) hlt
  | _ => exact ⟨ρ', hok', hq⟩
 | .exit id, _, τ, a, ρ, w, Q, hok, h => wp_exit ⟨ρ, hok, h⟩
 | .ret, _, τ, a, ρ, w, Q, hok, h => wp_ret ⟨ρ, hok, h⟩
 | .rangeFunc .., _, τ, a, ρ, w, Q, hok, h => (h : RawK ..) a hok
 | .scope c, hc, τ, a, ρ, w, Q, hok, h => by
  refine wp_scope_straight (wp_mono (den_sound c hc τ a ρ w (scopeQ Q) hok h) ?_)
  intro e a' w' ⟨ρ', hok', hq⟩
  cases e with
  | goto l => exact hq.elim
  | _ => exact ⟨ρ', hok', hq⟩
 | .label .., _, τ, a, ρ, w, Q, hok, h => wp_label ⟨ρ, hok, h⟩
 | .goto .., _, τ, a, ρ, w, Q, hok, h => (h : RawK ..) a hok
 | .refuse .., _, τ, a, ρ, w, Q, hok, h => (h : RawK ..) a hok


def rgOf : Nat → List Value → Rg
 | _, [] => []
 | i, v :: r => (i, v) :: rgOf (i + 1) r

theorem fd_rgOf : ∀ (l : List Value) (i t : Nat) (v : Value), fd (rgOf i l) t = some v → i ≤ t ∧ l[t - i]? = some v
 | [], _, _, _, h => by simp [rgOf, fd] at h
 | x :: r, i, t, v, h => by
  simp only [rgOf, fd_cons] at h
  by_cases e : i = t
  ·
   subst e; simp at h; subst h; simp
  ·
   rw [if_neg e] at h
   obtain ⟨h1, h2⟩ := fd_rgOf r (i + 1) t v h
   refine ⟨by omega, ?_⟩
   rw [show t - i = (t - (i + 1)) + 1 by omega]
   simpa using h2

def packV : List Value → Value
 | [v] => v
 | vs => .tuple vs.toArray

def resultsK (P : Program) : List ResultVar → Rg → World → (List Value → Prop) → Prop
 | [], _, _, K => K []
 | .tmp t :: r, ρ, w, K => lk ρ t fun v => resultsK P r ρ w fun vs => K (v :: vs)
 | .cell t ty :: r, ρ, w, K => lk ρ t fun p => loadK P ty p w fun _ v _ => resultsK P r ρ w fun vs => K (v :: vs)

def resOne (tmps : Array Value) : ResultVar → Sem Value
 | .tmp t => pure (tmps.getD t undef)
 | .cell a t => do loadVar t (← asAddr (tmps.getD a undef))

theorem resultsK_sound {n : Nat} {P : Program} {a : Act} {ρ : Rg} {w : World} (hok : Ok n a ρ) : ∀ (rs : List ResultVar) (K : List Value → Prop), resultsK P rs ρ w K →
  ∃ vs, (rs.mapM (resOne a.tmps)).run P w = .ok vs w ∧ K vs
 | [], K, h => ⟨[], rfl, h⟩
 | .tmp t :: r, K, h => by
  have h1 := lk_sound hok h
  obtain ⟨vs, hr, hk⟩ := resultsK_sound hok r _ h1
  refine ⟨_, ?_, hk⟩
  rw [List.mapM_cons, Sem.run_bind, show (resOne a.tmps (.tmp t)).run P w = .ok (a.tmps.getD t undef) w from rfl]
  simp only [Result.andThen_ok, Sem.run_bind, hr]
  rfl
 | .cell t ty :: r, K, h => by
  obtain ⟨v, hl, h2⟩ := loadK_run (lk_sound hok h)
  obtain ⟨vs, hr, hk⟩ := resultsK_sound hok r _ h2
  refine ⟨_, ?_, hk⟩
  have e : (resOne a.tmps (.cell t ty)).run P w = .ok v w := by
   unfold Instr.loadAt at hl
   show (do loadVar ty (← asAddr (a.tmps.getD t undef))).run P w = _
   cases hp : a.tmps.getD t undef <;> rw [hp] at hl <;> first
    | (rename_i y; cases y <;> first | exact hl | cases hl)
    | cases hl
  rw [List.mapM_cons, Sem.run_bind, e]
  simp only [Result.andThen_ok, Sem.run_bind, hr]
  rfl

theorem packV_eq (vs : List Value) : (if h : vs.toArray.size = 1 then vs.toArray[0] else .tuple vs.toArray) = packV vs := by
 match vs with
 | [] => rfl
 | [v] => rfl
 | v :: u :: us => simp [packV]

def retQ (P : Program) (rs : List ResultVar) (R : Ending → World → Prop) : Post
 | _, .normal, ρ, w => resultsK P rs ρ w fun vs => R (.returned (packV vs)) w
 | _, .ret, ρ, w => resultsK P rs ρ w fun vs => R (.returned (packV vs)) w
 | _, _, _, _ => False

theorem results_of {n : Nat} {P : Program} {fn : Func} {a : Act} {ρ : Rg} {w : World} {R : Ending → World → Prop} (hok : Ok n a ρ)
  (h : resultsK P fn.results.toList ρ w fun vs => R (.returned (packV vs)) w) : ∃ v, (results fn a.tmps).run P w = .ok v w ∧ R (.returned v) w := by
 obtain ⟨vs, hr, hk⟩ := resultsK_sound hok _ _ h
 refine ⟨packV vs, ?_, hk⟩
 have e : results fn a.tmps = (do
   let vs ← fn.results.mapM (resOne a.tmps)
   pure (if h : vs.size = 1 then vs[0] else .tuple vs)) := by
  unfold results
  congr 1
 rw [e, ← Array.toArray_toList (xs := fn.results), List.mapM_toArray, Sem.run_bind, Sem.run_map, hr]
 simp only [Result.andThen_ok]
 rw [← packV_eq]
 rfl

theorem calls_den {P : Program} {f : FuncId} {fn : Func} {c : Code} {args : List Value} {w : World} {R : Ending → World → Prop}
  (hf : P.funcs[f]? = some fn) (hb : fn.body = some c) (hc : okC fn.ntmps c = true) (hs : args.length ≤ fn.ntmps)
  (h : den true P fn.ntmps c (rgOf 0 args) w (retQ P fn.results.toList R)) : Calls P f args.toArray w R := by
 refine calls_of_wp hf hb ?_
 have hok : Ok fn.ntmps { tmps := args.toArray ++ Array.replicate (fn.ntmps - args.toArray.size) undef, defers := [] } (rgOf 0 args) := by
  refine ⟨rfl, by simp; omega, fun t v hv => ?_⟩
  obtain ⟨_, h2⟩ := fd_rgOf _ _ _ _ hv
  simp only [Nat.sub_zero] at h2
  rw [Array.getElem?_append_left (by simpa using (List.getElem?_eq_some_iff.1 h2).1)]
  simpa using h2
 refine wp_mono (den_sound c hc _ _ _ w _ hok h) ?_
 intro e a w' ⟨ρ, hok', hq⟩
 cases e with
 | normal => exact ⟨hok'.defers, results_of hok' hq⟩
 | ret => exact ⟨hok'.defers, results_of hok' hq⟩
 | _ => exact hq.elim

section
variable {P : Program} {n : Nat} {ρ : Rg} {w : World} {Q : Post}


variable {K : Kr}
variable {rs : List ResultVar} {R : Ending → World → Prop}
variable {KV : List Value → Prop}


variable {KO : Value → Prop}
variable {KP : List (Nat × Value) → Prop}
variable {KM : Option Value → Prop}

def gslK : List Oper → Nat → (Nat → Prop) → Prop
 | [], _, _ => False
 | o :: _, 0, F => match o.dst with | some t => F t | none => False
 | _ :: r, j + 1, F => gslK r j F
theorem gslK_eq : ∀ (l : List Oper) (j : Nat) (F : Nat → Prop), gslK l j F = match (l[j]?).bind (·.dst) with | some t => F t | none => False
 | [], j, F => by simp [gslK]
 | o :: r, 0, F => by simp [gslK]
 | o :: r, j + 1, F => by simp [gslK, gslK_eq r j F]
@[go_sem ↓] theorem gslK_zero {d : Nat} {op : Op} {t : TypeId} {p : String} {af : Array Edge} {g : Option (Nat × Bool)} {r : List Oper} {F : Nat → Prop} : gslK (⟨some d, op, t, p, af, g⟩ :: r) 0 F = F d := (rfl)
@[go_sem ↓] theorem gslK_succ {o : Oper} {r : List Oper} {j : Nat} {F : Nat → Prop} : gslK (o :: r) (j + 1) F = gslK r j F := (rfl)
variable {all : List Oper} {r : List Oper} {d : Option Nat} {dn : Nat} {op : Op} {ty : TypeId} {pos : String} {af : Array Edge}
section
variable {p : Prop} [Decidable p] {A B : Bool → Prop}
end

def binK (P : Program) (op : BinOp) (t : TypeId) (x y : Operand) (u v : Value) (w : World) (K : Kv) : Prop :=
 runK P (do eqGuard op t x y u v; binOp op t u v) w (K true)
variable {g : Option (Nat × Bool)} {k : Kv}
def pickK (c x y : Value) (w : World) (K : Kv) : Prop := match c with | .bool t => K true (bif t then x else y) w | _ => False
def unoK (P : Program) (op : UnOp) (v : Value) (w : World) (K : Kv) : Prop := runK P (Op.unary op v) w (K true)
def cvtK (P : Program) (s t : TypeId) (v : Value) (w : World) (K : Kv) : Prop := runK P (convert s t v) w (K true)
def idxK (P : Program) (t : TypeId) (x i : Value) (w : World) (K : Kv) : Prop := runK P (Instr.indexAt t x i) w (K true)
def bltK (P : Program) (b : Builtin) (ats : Array TypeId) (ty : TypeId) (cs : Array Bool) (args : List Value) (w : World) (K : Kv) : Prop :=
 nextK P (builtin b ats ty cs args.toArray) w K
@[go_sem ↓] theorem opK_builtin {b : Builtin} {xs : List Operand} {ats : Array TypeId} : opK true P ⟨d, .call { callee := .builtin b, args := xs.toArray, argTypes := ats }, ty, pos, af, g⟩ ρ w k =
  evsK ρ xs fun args => bltK P b ats ty (xs.toArray.map fun | .const _ => true | _ => false) args w k := rfl

variable {t : TypeId} {x y : Operand} {i j : IntKind} {a b : Int}
@[go_sem ↓] theorem binK_add : binK P .add t x y (.int i a) (.int i b) w k = k true (.int i (i.wrap (a + b))) w := by
 simp [binK, eqGuard, binOp, Op.intArith, runK_pure]
@[go_sem ↓] theorem binK_sub : binK P .sub t x y (.int i a) (.int i b) w k = k true (.int i (i.wrap (a - b))) w := by
 simp [binK, eqGuard, binOp, Op.intArith, runK_pure]
@[go_sem ↓] theorem binK_mul : binK P .mul t x y (.int i a) (.int i b) w k = k true (.int i (i.wrap (a * b))) w := by
 simp [binK, eqGuard, binOp, Op.intArith, runK_pure]
@[go_sem ↓] theorem binK_quo (h : b ≠ 0) : binK P .quo t x y (.int i a) (.int i b) w k = k true (.int i (i.wrap (a.tdiv b))) w := by
 simp [binK, eqGuard, binOp, Op.intDiv, runK_pure, h]
@[go_sem ↓] theorem binK_rem (h : b ≠ 0) : binK P .rem t x y (.int i a) (.int i b) w k = k true (.int i (a.tmod b)) w := by
 simp [binK, eqGuard, binOp, Op.intDiv, runK_pure, h]
@[go_sem ↓] theorem binK_lss : binK P .lss t x y (.int i a) (.int i b) w k = k true (.bool (decide (a < b))) w := by
 simp [binK, eqGuard, binOp, Op.intCmp, runK_pure]
@[go_sem ↓] theorem binK_leq : binK P .leq t x y (.int i a) (.int i b) w k = k true (.bool (decide (a ≤ b))) w := by
 simp [binK, eqGuard, binOp, Op.intCmp, runK_pure]
@[go_sem ↓] theorem binK_gtr : binK P .gtr t x y (.int i a) (.int i b) w k = k true (.bool (decide (b < a))) w := by
 simp [binK, eqGuard, binOp, Op.intCmp, runK_pure]
@[go_sem ↓] theorem binK_geq : binK P .geq t x y (.int i a) (.int i b) w k = k true (.bool (decide (b ≤ a))) w := by
 simp [binK, eqGuard, binOp, Op.intCmp, runK_pure]
@[go_sem ↓] theorem binK_eql : binK P .eql t x y (.int i a) (.int i b) w k = k true (.bool (decide (a = b))) w := by
 simp [binK, eqGuard, binOp, Op.intCmp, runK_pure]; rfl
@[go_sem ↓] theorem binK_neq : binK P .neq t x y (.int i a) (.int i b) w k = k true (.bool (!decide (a = b))) w := by
 simp [binK, eqGuard, binOp, Op.intCmp, runK_pure]; rfl
def bitK (op : BinOp) (k : IntKind) (x y : Int) : Int :=
 let a := BitVec.ofInt k.bits x
 let b := BitVec.ofInt k.bits y
 match op with
 | .and => k.wrap (a &&& b).toNat
 | .or => k.wrap (a ||| b).toNat
 | .xor => k.wrap (a ^^^ b).toNat
 | _ => k.wrap (a &&& ~~~b).toNat
@[go_sem ↓] theorem binK_and : binK P .and t x y (.int i a) (.int i b) w k = k true (.int i (bitK .and i a b)) w := by
 simp [binK, eqGuard, binOp, Op.intBits, runK_pure, bitK]
@[go_sem ↓] theorem binK_or : binK P .or t x y (.int i a) (.int i b) w k = k true (.int i (bitK .or i a b)) w := by
 simp [binK, eqGuard, binOp, Op.intBits, runK_pure, bitK]
@[go_sem ↓] theorem binK_xor : binK P .xor t x y (.int i a) (.int i b) w k = k true (.int i (bitK .xor i a b)) w := by
 simp [binK, eqGuard, binOp, Op.intBits, runK_pure, bitK]
@[go_sem ↓] theorem binK_andNot : binK P .andNot t x y (.int i a) (.int i b) w k = k true (.int i (bitK .andNot i a b)) w := by
 simp [binK, eqGuard, binOp, Op.intBits, runK_pure, bitK]
theorem binK_shl (h : 0 ≤ b) : binK P .shl t x y (.int i a) (.int j b) w k = k true (.int i (i.wrap (a * 2 ^ min b.toNat i.bits))) w := by
 have h' : ¬ b < 0 := by omega
 simp [binK, eqGuard, binOp, Op.shift, runK_pure, h']
theorem binK_shr (h : 0 ≤ b) : binK P .shr t x y (.int i a) (.int j b) w k = k true (.int i (a / 2 ^ min b.toNat i.bits)) w := by
 have h' : ¬ b < 0 := by omega
 have e : a.fdiv (2 ^ min b.toNat i.bits) = a / 2 ^ min b.toNat i.bits := by
  rw [Int.fdiv_eq_ediv_of_nonneg]
  exact Int.le_of_lt (Int.pow_pos (by decide))
 simp [binK, eqGuard, binOp, Op.shift, runK_pure, h', e]

@[go_sem] theorem wrap_i64 (h : -9223372036854775808 ≤ a ∧ a ≤ 9223372036854775807) : IntKind.i64.wrap a = a := by
 simp only [IntKind.wrap, IntKind.bits, IntKind.signed]; simp; split <;> omega
@[go_sem] theorem wrap_u8 (h : 0 ≤ a ∧ a ≤ 255) : IntKind.u8.wrap a = a := by simp [IntKind.wrap, IntKind.bits, IntKind.signed]; omega
@[go_sem] theorem wrap_u32 (h : 0 ≤ a ∧ a ≤ 4294967295) : IntKind.u32.wrap a = a := by simp [IntKind.wrap, IntKind.bits, IntKind.signed]; omega
@[go_sem] theorem wrap_u64 (h : 0 ≤ a ∧ a ≤ 18446744073709551615) : IntKind.u64.wrap a = a := by simp [IntKind.wrap, IntKind.bits, IntKind.signed]; omega
@[go_sem] theorem tdiv_pos (h : 0 ≤ a) : a.tdiv b = a / b := Int.tdiv_eq_ediv_of_nonneg h

section
theorem div_le_self' {c d : Int} (hc : 0 ≤ c) (hd : 0 < d) : 0 ≤ c / d ∧ c / d ≤ c := ⟨Int.ediv_nonneg hc (by omega), Int.ediv_le_self _ hc⟩
end

def tyK (P : Program) (t : TypeId) (F : TypeDesc → Prop) : Prop := match P.underlying t with | some d => F d | none => False
def infK (P : Program) (t : TypeId) (F : Nat → Nat → Prop) : Prop := match P.info? t with | some i => F i.size i.bytes | none => False
def zerK (P : Program) (t : TypeId) (F : Value → Prop) : Prop := match (P.info? t).bind (·.zero) with | some v => F v | none => False

end
end Go.Eng

namespace Go.Eng
set_option linter.unusedSimpArgs false
set_option linter.unusedVariables false
section
variable {P : Program} {w : World} {k : Kv} {t s e : TypeId} {i kd : IntKind} {a : Int}

theorem cvtK_of (hs : (P.underlying s).isSome = true) (ht : P.underlying t = some (.int kd)) : cvtK P s t (.int i a) w k = k true (.int kd (kd.wrap a)) w := by
 obtain ⟨d, hd⟩ := Option.isSome_iff_exists.1 hs
 unfold cvtK runK convert
 rw [Sem.run_bind, run_underlying hd, Result.andThen_ok, Sem.run_bind, run_underlying ht, Result.andThen_ok]
 rfl

theorem idxK_slice {b o len cap z : Nat} (ht : P.underlying t = some (.slice e)) (hz : (P.info? e).map (·.size) = some z) (h : 0 ≤ a ∧ a < len) :
  idxK P t (.slice (some ⟨b, o, none⟩) len cap) (.int i a) w k = k true (.pointer (some ⟨b, o + a.toNat * z, none⟩)) w := by
 unfold idxK runK Instr.indexAt
 simp only [asIntOf, pure_bind, Sem.run_bind, run_underlying ht, Result.andThen_ok]
 simp only [Sem.run_bind, Sem.run, pure, Result.andThen_ok, if_pos h, run_sizeOf hz, addr_add, resK]

theorem idxK_array {b o n z : Nat} (ht : P.underlying t = some (.array n e)) (hz : (P.info? e).map (·.size) = some z) (h : 0 ≤ a ∧ a < n) :
  idxK P t (.pointer (some ⟨b, o, none⟩)) (.int i a) w k = k true (.pointer (some ⟨b, o + a.toNat * z, none⟩)) w := by
 unfold idxK runK Instr.indexAt
 simp only [asIntOf, pure_bind, Sem.run_bind, run_underlying ht, Result.andThen_ok]
 simp only [Instr.sureAddr, Sem.run_bind, Sem.run, pure, Result.andThen_ok, if_pos h, run_sizeOf hz, addr_add, resK]

theorem loadK_cell {d : TypeDesc} {x : Addr} (ht : P.underlying t = some d) (hd : aggD d = false) : loadK P t (.pointer (some x)) w k = cellK w x fun τ v => k τ v w := by
 simp [loadK, ht, hd]
theorem loadK_agg {d : TypeDesc} {x : Addr} {n : Nat} (ht : P.underlying t = some d) (hd : aggD d = true) (hn : szOf P t = some n) : loadK P t (.pointer (some x)) w k = cellsK w x n fun τ cs => k τ (.agg cs.toArray) w := by
 simp [loadK, ht, hd, hn]


theorem bltK_len_slice {x : Option Addr} {n c : Nat} {cs : Array Bool} {ty : TypeId} (ht : P.underlying t = some (.slice e)) : bltK P .len #[t] ty cs [.slice x n c] w k = k true (.int .i64 n) w := by
 unfold bltK nextK runK builtin Builtin.len_
 simp only [Sem.run_bind, List.getElem?_toArray, List.getElem?_cons_zero]
 simp only [run_underlying ht, Result.andThen_ok]
 rfl
end

def NextK {X : Type} (st : X → Rg) (inv : X → World → Prop) (m : X → Nat) (x : X) (ρ : Rg) (w : World) : Prop := ∃ x', Sub (st x') ρ ∧ inv x' w ∧ m x' < m x


end Go.Eng

namespace Go.Eng
set_option linter.unusedSimpArgs false
set_option linter.unusedVariables false

section
variable {P : Program} {n : Nat} {ρ : Rg} {w : World} {k : Kv} {g : Option (Nat × Bool)} {d : Option Nat} {ty t e s : TypeId} {pos : String} {af : Array Edge} {x y : Operand}

def allocK (P : Program) (t : TypeId) (w : World) (k : Kv) : Prop := runK P (Instr.alloc t true (.tuple #[])) w (k true)
theorem allocK_of {C : List Value} (h : zeOf P t = some C) : allocK P t w k = k true (.pointer (some ⟨w.heap.size, 0, none⟩)) (w.alloc (.cells C.toArray t)) := by
 unfold zeOf at h
 cases hz : (P.info? t).bind (·.zero) with
 | none => rw [hz] at h; cases h
 | some v =>
  rw [hz] at h
  simp at h
  subst h
  unfold allocK runK Instr.alloc
  rw [Sem.run_bind, run_zero hz, Result.andThen_ok]
  simp [newVar, newRow, newObj, Sem.run, pure, resK]
def boxK (P : Program) (t : TypeId) (v : Value) (w : World) (k : Kv) : Prop := runK P (Instr.box t v) w (k true)
theorem boxK_eq {v : Value} : boxK P t v w k = k true (.pointer (some ⟨w.heap.size, 0, none⟩)) (w.alloc (.cells v.cells t)) := rfl

def bldK (P : Program) (t : TypeId) (ps : List (Nat × Value)) (w : World) (k : Kv) : Prop := runK P (Instr.build t ps.toArray) w (k true)
def bslK (P : Program) (t : TypeId) (n : Nat) (ps : List (Nat × Value)) (w : World) (k : Kv) : Prop := runK P (Instr.buildSlice t n ps.toArray) w (k true)
def numb : Nat → List Value → List (Nat × Value)
 | _, [] => []
 | j, v :: vs => (j, v) :: numb (j + 1) vs
theorem one_fold (v : Value) (o : Nat) (C : Array Value) : ((#[v] : Array Value).zipIdx.foldl (fun cs (c, j) => cs.setIfInBounds (o + j) c) C) = C.setIfInBounds o v := by
 simp [Array.zipIdx]

end
end Go.Eng

namespace Go.Eng
set_option linter.unusedSimpArgs false
set_option linter.unusedVariables false

section
variable {P : Program} {n : Nat} {ρ : Rg} {w : World} {k : Kv} {g : Option (Nat × Bool)} {d : Option Nat} {ty t e s : TypeId} {pos : String} {af : Array Edge} {x y : Operand} {i : IntKind} {a b : Int}

theorem frozen_old {o : Obj} {m j : Nat} (hm : m < w.heap.size) : (w.alloc o).frozen? ⟨m, j, none⟩ = w.frozen? ⟨m, j, none⟩ := World.frozen?_alloc_old _ _ _ (Nat.ne_of_lt hm)
theorem setCell_old {o : Obj} {m j : Nat} {v : Value} (hm : m < w.heap.size) : (w.alloc o).setCell ⟨m, j, none⟩ v = (w.setCell ⟨m, j, none⟩ v).alloc o := by
 unfold World.setCell World.alloc
 congr 1
 apply Array.ext
 ·
  simp
 ·
  intro q h1 h2
  simp only [Array.getElem_modify]
  simp at h2
  by_cases hq : q < w.heap.size
  ·
   rw [Array.getElem_push_lt hq, Array.getElem_push_lt (by simpa using hq), Array.getElem_modify]
  ·
   have : q = w.heap.size := by omega
   subst this
   rw [if_neg (by omega), Array.getElem_push, Array.getElem_push, dif_neg (by omega), dif_neg (by simp)]
@[go_sem ↓] theorem stK_old {o : Obj} {m j : Nat} {v : Value} {K : Bool → World → Prop} (hm : m < w.heap.size) : stK (w.alloc o) ⟨m, j, none⟩ v K = stK w ⟨m, j, none⟩ v fun τ w' => K τ (w'.alloc o) := by
 unfold stK
 rw [World.cell?_alloc_lt _ _ _ hm, frozen_old hm, setCell_old hm]
@[go_sem ↓] theorem stK_drew {c : Addr} {v : Value} {K : Bool → World → Prop} : stK w.drew c v K = stK w c v fun τ w' => K τ w'.drew := (rfl)
theorem stsK_drew : ∀ (vs : List Value) (w : World) (c : Addr) (K : Bool → World → Prop), stsK w.drew c vs K = stsK w c vs fun τ w' => K τ w'.drew
 | [], _, _, _ => rfl
 | v :: vs, w, c, K => by
  simp only [stsK, stK_drew]
  congr 1
  funext _ w'
  exact stsK_drew vs w' _ K
attribute [go_sem ↓] stsK_drew

def ncK (v : Value) (w : World) (k : Kv) : Prop := match v with | .pointer (some a) => k true (.pointer (some a)) w | .func (.func f) l c => k true (.func (.func f) l c) w | _ => False
def fadK (P : Program) (t : TypeId) (v : Value) (j : Nat) (w : World) (k : Kv) : Prop := runK P (Instr.fieldAt t v j) w (k true)
theorem fadK_of {fs : Array Field} {f : Field} {z o b' j : Nat} (ht : P.underlying t = some (.struct fs)) (hf : fs[j]? = some f) (hz : szOf P f.type = some (z + 1)) (ho : f.offset = o) {c : Nat} :
  fadK P t (.pointer (some ⟨b', c, none⟩)) j w k = k true (.pointer (some ⟨b', c + o, none⟩)) w := by
 subst ho
 unfold fadK runK Instr.fieldAt
 simp only [Sem.run_bind, run_underlying ht, Result.andThen_ok, hf, Instr.sureAddr, pure_bind, fieldPlace, run_sizeOf hz]
 simp [Sem.run, pure, resK, addr_add]
def fldK (P : Program) (t : TypeId) (v : Value) (j : Nat) (w : World) (k : Kv) : Prop := runK P (Instr.field t v j) w (k true)
def ixvK (P : Program) (t : TypeId) (v u : Value) (w : World) (k : Kv) : Prop := runK P (Instr.index t v u) w (k true)
theorem ixvK_of {C : List Value} {N : Nat} {f : TypeDesc} (ht : P.underlying t = some (.array N e)) (he : P.underlying e = some f) (hf : aggD f = false) (hz : szOf P e = some 1) (h : 0 ≤ a ∧ a < N) (hC : C.length = N) :
  ixvK P t (.agg C.toArray) (.int i a) w k = lstK C a.toNat fun τ v => k τ v w := by
 unfold ixvK runK Instr.index lstK
 simp only [asIntOf, pure_bind, Sem.run_bind, run_underlying ht, Result.andThen_ok, if_pos h, run_sizeOf hz, part, run_isAgg he, hf, Bool.false_eq_true, if_false]
 simp only [Nat.mul_one, List.getElem?_toArray]
 rw [List.getElem?_eq_getElem (by omega)]
 rfl
def extK (v : Value) (j : Nat) (w : World) (k : Kv) : Prop := match v with | .tuple vs => (match vs[j]? with | some u => k true u w | none => False) | _ => False
theorem extK_eq {v : Value} {j : Nat} : runK P (Instr.extract v j) w (k true) = extK v j w k := by
 unfold runK Instr.extract extK
 cases v with
 | tuple vs =>
  simp only
  cases h : vs[j]? <;> simp [Sem.run, pure, resK, stuck]
 | _ => simp [Sem.run, stuck, resK]
@[go_sem ↓] theorem opK_extract {j : Nat} : opK true P ⟨d, .extract x j, ty, pos, af, g⟩ ρ w k = evK ρ x fun v => extK v j w k := by
 show (evK ρ x fun t => runK P (Instr.extract t j) w (k true)) = _
 simp only [extK_eq]
@[go_sem ↓] theorem extK_of {vs : List Value} {j : Nat} : extK (.tuple vs.toArray) j w k = lstK vs j fun τ v => k τ v w := by
 unfold extK lstK
 simp only [List.getElem?_toArray]
 all_goals (cases vs[j]? <;> rfl)

def slcK (P : Program) (t : TypeId) (v : Value) (lo hi mx : Option Value) (w : World) (k : Kv) : Prop := runK P (Instr.sliceAt t v lo hi mx) w (k true)
theorem slcK_gen {u : Option Addr} {len cap z : Nat} {lo hi mx : Option Value} (ht : P.underlying t = some (.slice e)) (hz : szOf P e = some z) {l h m : Nat} (hr : ∀ w, (Instr.sliceBounds true len cap lo hi mx).run P w = .ok (l, h, m) w) :
  slcK P t (.slice u len cap) lo hi mx w k = k true (.slice (if m = l then u else u.map (·.add (l * z))) (h - l) (m - l)) w := by
 unfold slcK runK Instr.sliceAt Instr.slice
 simp only [Sem.run_bind, run_underlying ht, Result.andThen_ok, hr, run_sizeOf hz]
 rfl
theorem run_sliceBound {v : Int} {m : Nat} {c : BoundsCode} (h : 0 ≤ v ∧ v ≤ m) (w : World) : (Instr.sliceBound (.int i v) m c).run P w = .ok v.toNat w := by
 unfold Instr.sliceBound
 simp only [asIntOf, pure_bind, if_pos h]
 rfl
def behind (u : Option Addr) (l m z : Nat) : Option Addr := if m = l then u else u.map (·.add (l * z))

def mkfK (fn : Fn) (first captured : List Value) (w : World) (k : Kv) : Prop := k true (.func fn first.toArray captured.toArray) w
def calK (P : Program) (f : Value) (args : List Value) (w : World) (k : Kv) : Prop := match f with | .func (.func g) first captured => callK P g (first ++ args.toArray ++ captured) w k | _ => False
def cllK (P : Program) (f : FuncId) (args : List Value) (w : World) (k : Kv) : Prop := callK P f args.toArray w k

def Rets (P : Program) (f : FuncId) (args : List Value) (w : World) (R : Value → World → Prop) : Prop := Calls P f args.toArray w fun e w' => ∃ v, e = .returned v ∧ R v w'
theorem Rets.mono {f : FuncId} {args : List Value} {R R' : Value → World → Prop} (h : Rets P f args w R) (hr : ∀ v w', R v w' → R' v w') : Rets P f args w R' :=
 Calls.mono h fun _ _ ⟨v, he, hv⟩ => ⟨v, he, hr _ _ hv⟩
theorem cllK_of {f : FuncId} {args : List Value} {R : Value → World → Prop} (hc : ∀ (args : Array Value) (w : World), (callFunc f args).run P w = .ok (.enter f args) w) (h : Rets P f args w R) (hk : ∀ v w', R v w' → k true v w') : cllK P f args w k := by
 unfold cllK callK runK
 rw [hc]
 exact Calls.mono h fun _ _ ⟨v, he, hv⟩ => ⟨v, he, hk _ _ hv⟩

def retV (P : Program) (rs : List ResultVar) (R : Value → World → Prop) : Post
 | _, .normal, ρ, w => resultsK P rs ρ w fun vs => R (packV vs) w
 | _, .ret, ρ, w => resultsK P rs ρ w fun vs => R (packV vs) w
 | _, _, _, _ => False
theorem loadK_mono {v : Value} {K K' : Kv} (h : ∀ u, K true u w → K' true u w) (hk : loadK P t v w K) : loadK P t v w K' := by
 cases v with
 | pointer q =>
  cases q with
  | none => exact hk
  | some q =>
   unfold loadK at *
   simp only at *
   cases hu : P.underlying t with
   | none => rw [hu] at hk; exact hk
   | some dd =>
    rw [hu] at hk
    simp only at *
    cases hg : aggD dd with
    | true =>
     rw [hg] at hk
     simp only [cond_true] at *
     cases hs : szOf P t with
     | none => rw [hs] at hk; exact hk
     | some z =>
      rw [hs] at hk
      unfold cellsK at *
      cases hsp : q.spot with
      | some _ => rw [hsp] at hk; exact hk
      | none =>
       rw [hsp] at hk
       simp only at *
       cases hr : readC w q.block q.off z with
       | none => rw [hr] at hk; exact hk
       | some cs => rw [hr] at hk; exact h _ hk
    | false =>
     rw [hg] at hk
     simp only [cond_false] at *
     unfold cellK at *
     cases hc : w.cell? q with
     | none => rw [hc] at hk; exact hk
     | some u => rw [hc] at hk; exact h _ hk
 | _ => exact hk
theorem lk_mono {K K' : Value → Prop} {m : Nat} (h : ∀ u, K u → K' u) (hk : lk ρ m K) : lk ρ m K' := by
 unfold lk at *
 cases hf : fd ρ m with
 | none => rw [hf] at hk; exact hk
 | some v => rw [hf] at hk; exact h _ hk
theorem resultsK_mono : ∀ {rs : List ResultVar} {K K' : List Value → Prop}, (∀ vs, K vs → K' vs) → resultsK P rs ρ w K → resultsK P rs ρ w K'
 | [], _, _, h, hk => h _ hk
 | .tmp t :: r, K, K', h, hk => lk_mono (fun u hu => resultsK_mono (fun vs => h (u :: vs)) hu) hk
 | .cell t ty :: r, K, K', h, hk => lk_mono (fun p hp => loadK_mono (fun u hu => resultsK_mono (fun vs => h (u :: vs)) hu) hp) hk
theorem rets_den {f : FuncId} {fn : Func} {c : Code} {args : List Value} {R : Value → World → Prop}
  (hf : P.funcs[f]? = some fn) (hb : fn.body = some c) (hc : okC fn.ntmps c = true) (hs : Nat.ble args.length fn.ntmps = true) (rs : List ResultVar) (hr : fn.results.toList = rs)
  (h : den true P fn.ntmps c (rgOf 0 args) w (retV P rs R)) : Rets P f args w R := by
 subst hr
 refine calls_den hf hb hc (Nat.le_of_ble_eq_true hs) ?_
 have e : retV P fn.results.toList R = retQ P fn.results.toList fun e w' => ∃ v, e = .returned v ∧ R v w' := by
  funext τ x ρ w
  cases x <;> first
   | rfl
   | exact propext ⟨resultsK_mono fun vs hv => ⟨_, rfl, hv⟩, resultsK_mono fun vs ⟨v, he, hv⟩ => by cases he; exact hv⟩
 rw [← e]
 exact h

end
end Go.Eng

namespace Go.Eng
set_option linter.unusedSimpArgs false
set_option linter.unusedVariables false

def fpv : Value → List Nat
 | .slice (some a) _ _ => [a.block]
 | _ => []

def OwnC (w : World) (v : Value) (n z : Nat) (cs : List Value) : Prop :=
 cs.length = n * z ∧ ((v = .slice none 0 0 ∧ n = 0) ∨ ∃ b C cap, v = .slice (some ⟨b, 0, none⟩) n cap ∧ Blk w b C ∧ cap * z ≤ C.length ∧ n ≤ cap ∧ C.take (n * z) = cs)

theorem OwnC.ext {M : List Nat} {w w' : World} {v : Value} {n z : Nat} {cs : List Value} (h : OwnC w v n z cs) (he : Ext M w w') (hb : ∀ b ∈ fpv v, b ∉ M) : OwnC w' v n z cs := by
 obtain ⟨h1, h2⟩ := h
 refine ⟨h1, ?_⟩
 rcases h2 with h2 | ⟨b, C, cap, rfl, hB, h3, h4, h5⟩
 ·
  exact .inl h2
 ·
  exact .inr ⟨b, C, cap, rfl, hB.ext he (hb b (by simp [fpv])), h3, h4, h5⟩
theorem OwnC.ext' {w w' : World} {v : Value} {n z : Nat} {cs : List Value} (h : OwnC w v n z cs) (he : Ext [] w w') : OwnC w' v n z cs := h.ext he (fun _ _ => by simp)
theorem OwnC.lt {w : World} {v : Value} {n z : Nat} {cs : List Value} (h : OwnC w v n z cs) : ∀ b ∈ fpv v, b < w.heap.size := by
 obtain ⟨_, h2⟩ := h
 rcases h2 with ⟨rfl, _⟩ | ⟨b, C, cap, rfl, hB, _⟩
 ·
  intro b hb; simp [fpv] at hb
 ·
  intro b' hb; simp [fpv] at hb; subst hb; exact hB.lt
theorem OwnC.nil (w : World) (z : Nat) : OwnC w (.slice none 0 0) 0 z [] := ⟨by simp, .inl ⟨rfl, rfl⟩⟩
theorem OwnC.row {w : World} {v : Value} {n z : Nat} {cs : List Value} (h : OwnC w v n z cs) : ∃ a cap, v = .slice a n cap ∧ n ≤ cap ∧ Row w a cs ∧ (∀ b, ab a = b → cs ≠ [] → b ∈ fpv v) := by
 obtain ⟨h1, h2⟩ := h
 rcases h2 with ⟨rfl, rfl⟩ | ⟨b, C, cap, rfl, hB, h3, h4, h5⟩
 ·
  refine ⟨none, 0, rfl, Nat.le_refl _, ?_, ?_⟩
  ·
   have : cs = [] := List.length_eq_zero_iff.1 (by simpa using h1)
   subst this
   exact Row.nil _ _
  ·
   intro b _ hne
   exact absurd (List.length_eq_zero_iff.1 (by simpa using h1)) hne
 ·
  refine ⟨_, _, rfl, h4, Row.of_blk hB (fun i hi => ?_), fun b' hb _ => ?_⟩
  ·
   rw [Nat.zero_add]
   subst h5
   simp at hi ⊢
  ·
   simp [fpv]; exact hb.symm

theorem growBy_le (need : Nat) : ∀ (r c : Nat), 256 ≤ need → c < need → Builtin.growBy need r c ≤ 2 * need
 | 0, c, _, h => by simp [Builtin.growBy]; omega
 | r + 1, c, h0, h => by
  simp only [Builtin.growBy]
  rw [if_neg (by omega)]
  by_cases h1 : c + (c + 768) / 4 < need
  ·
   exact growBy_le need r _ h0 h1
  ·
   cases r with
   | zero => simp only [Builtin.growBy]; omega
   | succ r => simp only [Builtin.growBy]; rw [if_pos (by omega)]; omega
theorem nextcap_le {need cap : Nat} (h : cap < need) : Builtin.nextslicecap need cap ≤ 2 * need := by
 unfold Builtin.nextslicecap
 split
 ·
  omega
 ·
  split
  ·
   omega
  ·
   exact growBy_le need 4 cap (by omega) h

theorem run_firstCells {P : Program} {w : World} {a : Option Addr} {cs : List Value} {n z len cap : Nat} (h : Row w a cs) (hl : cs.length = n * z) (hn : a = none → n * z = 0) : (Builtin.firstCells z n (.slice a len cap)).run P w = .ok cs.toArray w := by
 cases a with
 | none =>
  have : cs = [] := List.length_eq_zero_iff.1 (by rw [hl]; exact hn rfl)
  subst this
  rfl
 | some x =>
  simp only [Builtin.firstCells]
  by_cases h0 : 0 < cs.length
  ·
   have hx : x = ⟨ab (some x), ao (some x), none⟩ := Option.some.inj (h.1 h0)
   have := run_loadCells (P := P) (b := ab (some x)) (o := ao (some x)) (fun i hi => h.2 i hi)
   rw [← hx, hl] at this
   exact this
  ·
   have : cs = [] := List.length_eq_zero_iff.1 (by omega)
   subst this
   have hz : n * z = 0 := by simpa using hl.symm
   rw [hz]
   rfl

section
variable {P : Program} {w : World} {k : Kv} {t e tx e' ty : TypeId} {cst : Array Bool}

theorem bltK_append_of {v x u : Value} {w' : World} (h : (Builtin.append_ #[t, tx] ty #[v, x]).run P w = .ok u w') : bltK P .append #[t, tx] ty cst [v, x] w k = k true u w' := by
 unfold bltK nextK runK builtin
 simp only [Sem.run_bind, h, Result.andThen_ok]
 rfl

theorem run_append_room {a ax : Option Addr} {n m z cap capx b : Nat} {xs C : List Value} (ht : P.underlying t = some (.slice e)) (htx : P.underlying tx = some (.slice e')) (hz : szOf P e = some z)
  (hx : Row w ax xs) (hxl : xs.length = m * z) (hmz : ax = none → m * z = 0) (ho : ∀ v ∈ xs, oneC v = true) (hfit : n + m ≤ cap) (ha : a = some ⟨b, 0, none⟩) (hB : Blk w b C) (hC : cap * z ≤ C.length) :
  (Builtin.append_ #[t, tx] ty #[.slice a n cap, .slice ax m capx]).run P w = .ok (.slice a (n + m) cap) (if xs = [] then w else setB w b (setL C (n * z) xs)) := by
 subst ha
 have hle : 0 + n * z + xs.length ≤ C.length := by
  rw [hxl, Nat.zero_add, ← Nat.add_mul]
  exact Nat.le_trans (Nat.mul_le_mul_right z hfit) hC
 have hst := run_storeCells (P := P) xs w b (0 + n * z) 0 C ho hB (by simpa using hle)
 simp only [Nat.zero_add, Nat.add_zero] at hst
 unfold Builtin.append_
 simp only [List.getElem?_toArray, List.getElem?_cons_zero, List.getElem?_cons_succ, Sem.run_bind, run_underlying ht, Result.andThen_ok, run_sizeOf hz, run_underlying htx, Builtin.lenOf, pure_bind, Bool.false_eq_true, if_false]
 rw [if_pos hfit]
 simp only [Bool.not_false, if_true, Sem.run_bind, run_firstCells hx hxl hmz, Result.andThen_ok, addr_add, Nat.zero_add, hst]
 rfl

theorem run_append_new {a ax : Option Addr} {n m z y cap capx : Nat} {cs xs Z : List Value} (ht : P.underlying t = some (.slice e)) (htx : P.underlying tx = some (.slice e')) (hz : szOf P e = some z) (hy : byOf P e = some y) (hy0 : 0 < y) (hze : zeOf P e = some Z) (hZ : Z.length = z)
  (hrow : Row w a cs) (hl : cs.length = n * z) (hnz : a = none → n * z = 0) (hx : Row w ax xs) (hxl : xs.length = m * z) (hmz : ax = none → m * z = 0) (hfit : ¬ n + m ≤ cap) (hb : (n + m) * 2 * y ≤ 2 ^ 48) :
  ∃ newCap rest, n + m ≤ newCap ∧ (rest : List Value).length = (newCap - (n + m)) * z ∧ (Builtin.append_ #[t, tx] ty #[.slice a n cap, .slice ax m capx]).run P w = .ok (.slice (some ⟨w.heap.size, 0, none⟩) (n + m) newCap) (w.drew.alloc (.cells (cs ++ xs ++ rest).toArray e)) := by
 obtain ⟨ti, hti, hby⟩ : ∃ ti, P.info? e = some ti ∧ ti.bytes = y := by
  unfold byOf at hy
  cases hi : P.info? e with
  | none => rw [hi] at hy; cases hy
  | some ti => rw [hi] at hy; exact ⟨ti, rfl, by simpa using hy⟩
 obtain ⟨zv, hzv, hzc⟩ : ∃ zv, (P.info? e).bind (·.zero) = some zv ∧ zv.cells.toList = Z := by
  unfold zeOf at hze
  cases hzz : (P.info? e).bind (·.zero) with
  | none => rw [hzz] at hze; cases hze
  | some zv => rw [hzz] at hze; exact ⟨zv, rfl, by simpa using hze⟩
 have hsmall : ¬ (Builtin.nextslicecap (n + m) cap * y > 2 ^ 48) := by
  have := Nat.mul_le_mul_right y (nextcap_le (need := n + m) (cap := cap) (by omega))
  rw [Nat.mul_comm 2 (n + m)] at this
  omega
 have hroomrun : ∀ (c : Nat) (w : World), (askRoom c).run P w = .ok () w := fun c w => by
  unfold askRoom
  split <;> rfl
 have hch : ∀ w : World, ∃ nc, n + m ≤ nc ∧ (choose (.appendCap (n + m) cap e)).run P w = .ok nc w.drew := fun w =>
  ⟨_, Nat.le_add_right _ _, rfl⟩
 obtain ⟨nc, hnc, hrunc⟩ := hch w
 refine ⟨nc, (Builtin.zeroCells zv.cells (nc - (n + m))).toList, hnc, ?_, ?_⟩
 ·
  simp [Builtin.zeroCells]
  rw [← hZ, ← hzc]
  simp
 ·
  unfold Builtin.append_
  simp only [List.getElem?_toArray, List.getElem?_cons_zero, List.getElem?_cons_succ, Sem.run_bind, run_underlying ht, Result.andThen_ok, run_sizeOf hz, run_underlying htx, Builtin.lenOf, pure_bind, Bool.false_eq_true, if_false]
  rw [if_neg hfit]
  simp only [Sem.run_bind, run_typeInfo hti, Result.andThen_ok]
  rw [hby, if_neg (by rintro ⟨_, h | h⟩ <;> first | exact h | omega)]
  simp only [Sem.run_bind, run_typeInfo hti, Result.andThen_ok, pure_bind]
  rw [hby, if_neg hsmall]
  simp only [Sem.run_bind, hrunc, run_typeInfo hti, Result.andThen_ok, hroomrun, Bool.not_false, if_true]
  rw [run_firstCells (w := w.drew) (len := n) (cap := cap) hrow hl hnz, Result.andThen_ok, run_firstCells (w := w.drew) (len := m) (cap := capx) hx hxl hmz, Result.andThen_ok, run_zero hzv]
  simp only [Result.andThen_ok, newRow, newObj, Sem.run_bind]
  simp only [Sem.run, Sem.bind, pure, Result.andThen_ok]
  congr 2
  congr 2
  simp

theorem OwnC.parts {v : Value} {n z : Nat} {cs : List Value} (h : OwnC w v n z cs) : ∃ a cap, v = .slice a n cap ∧ Row w a cs ∧ (n ≤ cap) ∧ ((a = none ∧ cap = 0) ∨ ∃ b C, a = some ⟨b, 0, none⟩ ∧ Blk w b C ∧ cap * z ≤ C.length ∧ C.take (n * z) = cs) := by
 obtain ⟨hl, hcase⟩ := h
 rcases hcase with ⟨rfl, rfl⟩ | ⟨b, C, cap, rfl, hB, h3, h4, h5⟩
 ·
  have : cs = [] := List.length_eq_zero_iff.1 (by simpa using hl)
  subst this
  exact ⟨none, 0, rfl, Row.nil _ _, by omega, .inl ⟨rfl, rfl⟩⟩
 ·
  refine ⟨_, cap, rfl, Row.of_blk hB (fun i hi => ?_), h4, .inr ⟨b, C, rfl, hB, h3, h5⟩⟩
  rw [Nat.zero_add]
  subst h5
  simp at hi ⊢

theorem append_own {v : Value} {n z m y capx : Nat} {cs xs Z : List Value} {ax : Option Addr} (ht : P.underlying t = some (.slice e)) (htx : P.underlying tx = some (.slice e')) (hz : szOf P e = some z) (hy : byOf P e = some y) (hy0 : 0 < y) (hze : zeOf P e = some Z) (hZ : Z.length = z)
  (hv : OwnC w v n z cs) (hx : Row w ax xs) (hxl : xs.length = m * z) (ho : ∀ v ∈ xs, oneC v = true) (hb : (n + m) * 2 * y ≤ 2 ^ 48)
  (hk : ∀ v' w', OwnC w' v' (n + m) z (cs ++ xs) → Ext (fpv v) w w' → (∀ b ∈ fpv v', b ∈ fpv v ∨ w.heap.size ≤ b) → k true v' w') :
  bltK P .append #[t, tx] ty cst [v, .slice ax m capx] w k := by
 have hmz : ax = none → m * z = 0 := fun h => by
  subst h
  rcases Nat.eq_zero_or_pos xs.length with h0 | h0
  ·
   omega
  ·
   have := hx.1 h0; cases this
 have hl := hv.1
 obtain ⟨a, cap, rfl, hrow, hncap, hroom⟩ := hv.parts
 have hnz : a = none → n * z = 0 := fun h => by
  rcases hroom with ⟨_, h0⟩ | ⟨b, C, h1, _⟩
  ·
   have : n = 0 := by omega
   simp [this]
  ·
   rw [h] at h1; cases h1
 by_cases hfit : n + m ≤ cap
 ·
  rcases hroom with ⟨rfl, h0⟩ | ⟨b, C, ha, hB, hC, htake⟩
  ·
   have hm0 : m = 0 := by omega
   have hn0 : n = 0 := by omega
   subst hm0 hn0
   have hxs : xs = [] := List.length_eq_zero_iff.1 (by simpa using hxl)
   have hcs : cs = [] := List.length_eq_zero_iff.1 (by simpa using hl)
   subst hxs hcs h0
   have hrun : (Builtin.append_ #[t, tx] ty #[.slice none 0 0, .slice ax 0 capx]).run P w = .ok (.slice none 0 0) w := by
    unfold Builtin.append_
    simp only [List.getElem?_toArray, List.getElem?_cons_zero, List.getElem?_cons_succ, Sem.run_bind, run_underlying ht, Result.andThen_ok, run_sizeOf hz, run_underlying htx, Builtin.lenOf, pure_bind, Bool.false_eq_true, if_false]
    rw [if_pos (by omega)]
    simp only [Bool.not_false, if_true, Sem.run_bind]
    rw [run_firstCells (n := 0) hx (by simp) (by simp)]
    rfl
   rw [bltK_append_of hrun]
   exact hk _ _ (OwnC.nil w z) (Ext.refl _ _) (fun b hb => by simp [fpv] at hb)
  ·
   rw [bltK_append_of (run_append_room ht htx hz hx hxl hmz ho hfit ha hB hC)]
   subst ha
   have hle : n * z + xs.length ≤ C.length := by
    rw [hxl, ← Nat.add_mul]
    exact Nat.le_trans (Nat.mul_le_mul_right z hfit) hC
   have hC' : n * z ≤ C.length := Nat.le_trans (Nat.mul_le_mul_right z hncap) hC
   refine hk _ _ ⟨by simp [hl, hxl, Nat.add_mul], .inr ⟨b, if xs = [] then C else setL C (n * z) xs, cap, rfl, ?_, ?_, hfit, ?_⟩⟩ ?_ (fun b' hb' => .inl hb')
   ·
    by_cases hxe : xs = []
    ·
     simp only [if_pos hxe]; exact hB
    ·
     simp only [if_neg hxe]; exact setB_heap hB
   ·
    split
    ·
     exact hC
    ·
     rw [setL_length]; exact hC
   ·
    apply List.ext_getElem?
    intro j
    rw [Nat.add_mul, ← hl, ← hxl, List.getElem?_take]
    by_cases hj : j < cs.length + xs.length
    ·
     rw [if_pos hj]
     have hcsj : ∀ j, j < cs.length → C[j]? = cs[j]? := fun j hj => by
      have h9 := congrArg (·[j]?) htake
      simp only [List.getElem?_take] at h9
      rw [if_pos (by omega)] at h9
      exact h9
     by_cases hxe : xs = []
     ·
      subst hxe
      simp at hj ⊢
      exact hcsj j hj
     ·
      rw [if_neg hxe, setL_get xs C _ j (by omega)]
      by_cases hj2 : j < cs.length
      ·
       rw [if_neg (by omega), hcsj j hj2, List.getElem?_append_left hj2]
      ·
       rw [if_pos (by omega), List.getElem?_append_right (by omega)]
    ·
     rw [if_neg hj, List.getElem?_eq_none (by simp; omega)]
   ·
    by_cases hxe : xs = []
    ·
     rw [if_pos hxe]; exact Ext.refl _ _
    ·
     rw [if_neg hxe]; exact setB_ext _ _ _
 ·
  obtain ⟨nc, rest, h1, h2, h3⟩ := run_append_new (ty := ty) (capx := capx) ht htx hz hy hy0 hze hZ hrow hl hnz hx hxl hmz hfit hb
  rw [bltK_append_of h3]
  refine hk _ _ ⟨by simp [hl, hxl, Nat.add_mul], .inr ⟨_, _, nc, rfl, Blk.new w.drew _ _, ?_, h1, ?_⟩⟩ ((Ext.refl _ _).drew.alloc _) (fun b hb => .inr (by simp [fpv] at hb; omega))
  ·
   have : nc = (n + m) + (nc - (n + m)) := by omega
   rw [List.length_append, List.length_append, hl, hxl, h2, ← Nat.add_mul, ← Nat.add_mul, ← this]
   exact Nat.le_refl _
  ·
   rw [Nat.add_mul, ← hl, ← hxl, ← List.length_append]
   exact List.take_left

theorem append_fresh {a : Option Addr} {n z m y cap capx : Nat} {cs xs Z : List Value} {ax : Option Addr} (ht : P.underlying t = some (.slice e)) (htx : P.underlying tx = some (.slice e')) (hz : szOf P e = some z) (hy : byOf P e = some y) (hy0 : 0 < y) (hze : zeOf P e = some Z) (hZ : Z.length = z)
  (hrow : Row w a cs) (hl : cs.length = n * z) (hx : Row w ax xs) (hxl : xs.length = m * z) (ho : ∀ v ∈ xs, oneC v = true) (hfit : ¬ n + m ≤ cap) (hb : (n + m) * 2 * y ≤ 2 ^ 48)
  (hk : ∀ v' w', OwnC w' v' (n + m) z (cs ++ xs) → Ext [] w w' → (∀ b ∈ fpv v', w.heap.size ≤ b) → k true v' w') :
  bltK P .append #[t, tx] ty cst [.slice a n cap, .slice ax m capx] w k := by
 have hmz : ax = none → m * z = 0 := fun h => by
  subst h
  rcases Nat.eq_zero_or_pos xs.length with h0 | h0
  ·
   omega
  ·
   have := hx.1 h0; cases this
 have hnz : a = none → n * z = 0 := fun h => by
  subst h
  rcases Nat.eq_zero_or_pos cs.length with h0 | h0
  ·
   omega
  ·
   have := hrow.1 h0; cases this
 obtain ⟨nc, rest, h1, h2, h3⟩ := run_append_new (ty := ty) (capx := capx) ht htx hz hy hy0 hze hZ hrow hl hnz hx hxl hmz hfit hb
 rw [bltK_append_of h3]
 refine hk _ _ ⟨by simp [hl, hxl, Nat.add_mul], .inr ⟨_, _, nc, rfl, Blk.new w.drew _ _, ?_, h1, ?_⟩⟩ ((Ext.refl _ _).drew.alloc _) (fun b hb => by simp [fpv] at hb; omega)
 ·
  have : nc = (n + m) + (nc - (n + m)) := by omega
  rw [List.length_append, List.length_append, hl, hxl, h2, ← Nat.add_mul, ← Nat.add_mul, ← this]
  exact Nat.le_refl _
 ·
  rw [Nat.add_mul, ← hl, ← hxl, ← List.length_append]
  exact List.take_left
end
end Go.Eng
