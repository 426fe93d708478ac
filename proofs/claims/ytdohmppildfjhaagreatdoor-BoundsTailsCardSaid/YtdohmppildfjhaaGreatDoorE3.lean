import Derived.Test.YtdohmppildfjhaaGreatDoorE2
import Derived.Laws.StructEq
import Derived.ChangeKeysEq
namespace Go.Vx
open Go.Eng
set_option linter.unusedSimpArgs false
set_option linter.unusedVariables false

inductive PV where
 | lit (v : Value)
 | row (z : Nat) (l : List (List PV))
 | ptr (z : Nat) (l : List (List PV)) (i off : Nat)

inductive V where
 | lit (v : Value)
 | row (z : Nat) (l : List (List PV))
 | xrow (z : Nat) (l : List (List PV))
 | ref (o z i off : Nat)
 | sl (o z off len : Nat)
 | rref (z : Nat) (l : List (List PV)) (i off : Nat)
 | agg (l : List V)
 | tup (l : List V)
 | clo (f : Nat) (c : List V)
 | mref (o : Nat)

inductive Ob where
 | cells (l : List V)
 | row (z : Nat) (l : List (List PV))
 | map (l : List ((Int × Int × Bool) × List PV))
 | iter (o n : Nat) (seen : List Nat)

def V.ofP : PV → V
 | .lit v => .lit v
 | .row z l => .row z l
 | .ptr z l i off => .rref z l i off

abbrev St := List (Option Ob)
abbrev Vg := List (Nat × V)
abbrev Mu := List (Option (Nat × Nat))

inductive RepP (w : World) (Im : Nat → Prop) : PV → Value → Prop where
 | lit {v : Value} (h : oneC v = true) : RepP w Im (.lit v) v
 | row {z len cap : Nat} {l : List (List PV)} {a : Option Addr} {C : List Value} (hl : len = l.length) (hc : len ≤ cap) (hz : ∀ e ∈ l, e.length = z) (hR : Row w a C) (hI : C ≠ [] → Im (ab a)) (hn : C.length = len * z)
   (ho : ∀ c ∈ C, oneC c = true) (hr : ∀ (i : Nat) c p, C[i]? = some c → l.flatten[i]? = some p → RepP w Im p c) : RepP w Im (.row z l) (.slice a len cap)
 | ptr {z i off : Nat} {l : List (List PV)} {a : Option Addr} {C : List Value} (hz : ∀ e ∈ l, e.length = z) (hR : Row w a C) (hI : C ≠ [] → Im (ab a)) (hn : C.length = l.length * z)
   (ho : ∀ c ∈ C, oneC c = true) (hr : ∀ (i : Nat) c p, C[i]? = some c → l.flatten[i]? = some p → RepP w Im p c) : RepP w Im (.ptr z l i off) (.pointer (some ⟨ab a, ao a + i * z + off, none⟩))

def SlOk (loc : Option (Option (Nat × Nat))) (z off len : Nat) (a : Option Addr) (cap : Nat) : Prop :=
 len ≤ cap ∧ match loc with
  | some none => a = none ∧ len = 0 ∧ cap = 0 ∧ off = 0
  | some (some (b, n)) => (0 < len ∨ off = 0 → a = some ⟨b, off * z, none⟩) ∧ off * z + cap * z ≤ n
  | none => False

inductive RepV (w : World) (Im : Nat → Prop) (μ : Mu) : V → Value → Prop where
 | lit {v : Value} (h : oneC v = true) : RepV w Im μ (.lit v) v
 | row {z : Nat} {l : List (List PV)} {v : Value} (h : RepP w Im (.row z l) v) : RepV w Im μ (.row z l) v
 | xrow {z len : Nat} {l : List (List PV)} {a : Option Addr} (h : RepP w Im (.row z l) (.slice a len len)) : RepV w Im μ (.xrow z l) (.slice a len len)
 | ref {o z i off b n : Nat} (h : μ[o]? = some (some (b, n))) : RepV w Im μ (.ref o z i off) (.pointer (some ⟨b, i * z + off, none⟩))
 | sl {o z off len cap : Nat} {a : Option Addr} (h : SlOk μ[o]? z off len a cap) : RepV w Im μ (.sl o z off len) (.slice a len cap)
 | rref {z i off : Nat} {l : List (List PV)} {a : Option Addr} {C : List Value} (hz : ∀ e ∈ l, e.length = z) (hR : Row w a C) (hI : C ≠ [] → Im (ab a)) (hn : C.length = l.length * z)
   (ho : ∀ c ∈ C, oneC c = true) (hr : ∀ (i : Nat) c p, C[i]? = some c → l.flatten[i]? = some p → RepP w Im p c) : RepV w Im μ (.rref z l i off) (.pointer (some ⟨ab a, ao a + i * z + off, none⟩))
 | agg {l : List V} {C : List Value} (hn : C.length = l.length) (ho : ∀ c ∈ C, oneC c = true) (h : ∀ (i : Nat) u c, l[i]? = some u → C[i]? = some c → RepV w Im μ u c) : RepV w Im μ (.agg l) (.agg C.toArray)
 | tup {l : List V} {C : List Value} (hn : C.length = l.length) (h : ∀ (i : Nat) u c, l[i]? = some u → C[i]? = some c → RepV w Im μ u c) : RepV w Im μ (.tup l) (.tuple C.toArray)
 | clo {f : Nat} {l : List V} {C : List Value} (hn : C.length = l.length) (h : ∀ (i : Nat) u c, l[i]? = some u → C[i]? = some c → RepV w Im μ u c) : RepV w Im μ (.clo f l) (.func (.func f) #[] C.toArray)
 | mref {o b n : Nat} (h : μ[o]? = some (some (b, n))) : RepV w Im μ (.mref o) (.map (some b))

def RepL (w : World) (Im : Nat → Prop) (μ : Mu) (l : List V) (C : List Value) : Prop :=
 C.length = l.length ∧ ∀ (i : Nat) u c, l[i]? = some u → C[i]? = some c → RepV w Im μ u c
def RepPs (w : World) (Im : Nat → Prop) (l : List PV) (C : List Value) : Prop :=
 C.length = l.length ∧ ∀ (i : Nat) c p, C[i]? = some c → l[i]? = some p → RepP w Im p c

def kyA (k : Int × Int × Bool) : Value := .agg #[.int .i64 k.1, .int .i64 k.2.1, .bool k.2.2]
def EntR (w : World) (Im : Nat → Prop) (i : Nat) (x : (Int × Int × Bool) × List PV) (e : MapEntry) : Prop :=
 e.born = i ∧ e.key = kyA x.1 ∧ ∃ C : List Value, e.val = .agg C.toArray ∧ (∀ c ∈ C, oneC c = true) ∧ RepPs w Im x.2 C
def RepO (w : World) (Im : Nat → Prop) (μ : Mu) (loc : Option (Nat × Nat)) : Ob → Prop
 | .cells l => ∃ b C D, loc = some (b, (C ++ D).length) ∧ Blk w b (C ++ D) ∧ (∀ c ∈ C, oneC c = true) ∧ RepL w Im μ l C
 | .row z l => (∀ e ∈ l, e.length = z) ∧ ((loc = none ∧ l = []) ∨ ∃ b C, loc = some (b, C.length) ∧ Blk w b C ∧ l.length * z ≤ C.length ∧ ∀ (i : Nat) c p, C[i]? = some c → l.flatten[i]? = some p → RepP w Im p c)
 | .map l => ∃ b es, loc = some (b, 0) ∧ w.heap[b]? = some (.map es es.size) ∧ es.size = l.length ∧ ∀ (i : Nat) e x, es[i]? = some e → l[i]? = some x → EntR w Im i x e
 | .iter o n seen => ∃ b m k, loc = some (b, 0) ∧ μ[o]? = some (some (m, k)) ∧ w.heap[b]? = some (.mapIter (some m) n seen.toArray n)

theorem RepO.cells0 {w : World} {Im : Nat → Prop} {μ : Mu} {loc : Option (Nat × Nat)} {l : List V} {b : Nat} {C : List Value} (e : loc = some (b, C.length)) (hB : Blk w b C) (ho : ∀ c ∈ C, oneC c = true) (hl : RepL w Im μ l C) : RepO w Im μ loc (.cells l) :=
 ⟨b, C, [], by rw [List.append_nil]; exact e, by rw [List.append_nil]; exact hB, ho, hl⟩
theorem get_l {α : Type} {C D : List α} {i : Nat} {c : α} (h : C[i]? = some c) : (C ++ D)[i]? = some c := by
 rw [List.getElem?_append_left (List.getElem?_eq_some_iff.1 h).1]; exact h

def live (μ : Mu) (σ : St) : List Nat := (μ.zip σ).filterMap fun
 | (some (b, _), some _) => some b
 | _ => none

theorem mem_live {μ : Mu} {σ : St} {b : Nat} : b ∈ live μ σ ↔ ∃ (o n : Nat) (ob : Ob), μ[o]? = some (some (b, n)) ∧ σ[o]? = some (some ob) := by
 unfold live
 rw [List.mem_filterMap]
 constructor
 ·
  rintro ⟨⟨m, s⟩, hm, he⟩
  obtain ⟨o, ho, hoe⟩ := List.mem_iff_getElem.1 hm
  rw [List.getElem_zip] at hoe
  injection hoe with h1 h2
  rw [List.length_zip] at ho
  match m, s, he with
  | some (b', n), some ob, he =>
   simp at he
   subst he
   exact ⟨o, n, ob, by rw [← h1]; exact List.getElem?_eq_getElem (by omega), by rw [← h2]; exact List.getElem?_eq_getElem (by omega)⟩
 ·
  rintro ⟨o, n, ob, h1, h2⟩
  refine ⟨(some (b, n), some ob), ?_, rfl⟩
  have l1 := (List.getElem?_eq_some_iff.1 h1)
  have l2 := (List.getElem?_eq_some_iff.1 h2)
  obtain ⟨l1, e1⟩ := l1
  obtain ⟨l2, e2⟩ := l2
  refine List.mem_iff_getElem.2 ⟨o, by rw [List.length_zip]; omega, ?_⟩
  rw [List.getElem_zip, e1, e2]

def layT : List (Nat × List Value) := [(2, (List.range 20).map fun i => .int .u64 ((10 ^ i : Nat) : Int))]
def LayOk (w : World) (Im : Nat → Prop) : Prop := ∀ e ∈ layT, Im e.1 ∧ Row w (some ⟨e.1, 0, none⟩) e.2
structure Rel (μ : Mu) (Im : Nat → Prop) (σ : St) (w : World) : Prop where
 len : μ.length = σ.length
 rep : ∀ (o : Nat) ob, σ[o]? = some (some ob) → ∃ loc, μ[o]? = some loc ∧ RepO w Im μ loc ob
 inj : ∀ (o o' : Nat) ob ob' b n n', σ[o]? = some (some ob) → σ[o']? = some (some ob') → μ[o]? = some (some (b, n)) → μ[o']? = some (some (b, n')) → o = o'
 im : ∀ b, Im b → b < w.heap.size ∧ b ∉ live μ σ
 lay : LayOk w Im

structure Stp (μ : Mu) (Im : Nat → Prop) (σ : St) (w : World) (μ' : Mu) (Im' : Nat → Prop) (σ' : St) (w' : World) : Prop where
 pre : μ <+: μ'
 im : ∀ b, Im b → Im' b
 ext : Ext (live μ σ) w w'
 live : ∀ b ∈ live μ' σ', b ∈ live μ σ ∨ w.heap.size ≤ b
 fresh : ∀ b, Im' b → Im b ∨ b ∈ Vx.live μ σ ∨ w.heap.size ≤ b

theorem Stp.refl (μ : Mu) (Im : Nat → Prop) (σ : St) (w : World) : Stp μ Im σ w μ Im σ w :=
 ⟨List.prefix_refl _, fun _ h => h, Ext.refl _ _, fun _ h => .inl h, fun _ h => .inl h⟩
theorem Stp.trans {μ μ' μ'' : Mu} {Im Im' Im'' : Nat → Prop} {σ σ' σ'' : St} {w w' w'' : World} (h : Stp μ Im σ w μ' Im' σ' w') (k : Stp μ' Im' σ' w' μ'' Im'' σ'' w'') : Stp μ Im σ w μ'' Im'' σ'' w'' := by
 have hz := h.ext.size
 refine ⟨h.pre.trans k.pre, fun b hb => k.im b (h.im b hb), h.ext.trans k.ext h.live, fun b hb => ?_, fun b hb => ?_⟩
 ·
  rcases k.live b hb with h1 | h1
  ·
   exact h.live b h1
  ·
   exact .inr (by omega)
 ·
  rcases k.fresh b hb with h1 | h1 | h1
  ·
   exact h.fresh b h1
  ·
   rcases h.live b h1 with h2 | h2
   ·
    exact .inr (.inl h2)
   ·
    exact .inr (.inr h2)
  ·
   exact .inr (.inr (by omega))

structure Mono (μ : Mu) (Im : Nat → Prop) (w : World) (μ' : Mu) (Im' : Nat → Prop) (w' : World) : Prop where
 pre : μ <+: μ'
 im : ∀ b, Im b → Im' b
 blk : ∀ b, Im b → w'.heap[b]? = w.heap[b]?
theorem Stp.mono {μ μ' : Mu} {Im Im' : Nat → Prop} {σ σ' : St} {w w' : World} (h : Stp μ Im σ w μ' Im' σ' w') (r : Rel μ Im σ w) : Mono μ Im w μ' Im' w' :=
 ⟨h.pre, h.im, fun b hb => h.ext.block b (r.im b hb).1 (r.im b hb).2⟩

theorem Row.mono {μ μ' : Mu} {Im Im' : Nat → Prop} {w w' : World} (m : Mono μ Im w μ' Im' w') {a : Option Addr} {C : List Value} (h : Row w a C) (hI : C ≠ [] → Im (ab a)) : Row w' a C := by
 refine ⟨h.1, fun i hi => ?_⟩
 have hne : C ≠ [] := fun e => by subst e; simp at hi
 have := h.2 i hi
 unfold World.cell? at *
 rw [m.blk _ (hI hne)]
 exact this
theorem LayOk.mono {μ μ' : Mu} {Im Im' : Nat → Prop} {w w' : World} (m : Mono μ Im w μ' Im' w') (h : LayOk w Im) : LayOk w' Im' := fun e he => ⟨m.im _ (h e he).1, Row.mono m (h e he).2 fun _ => (h e he).1⟩
theorem RepP.mono {μ μ' : Mu} {Im Im' : Nat → Prop} {w w' : World} (m : Mono μ Im w μ' Im' w') {p : PV} {v : Value} (h : RepP w Im p v) : RepP w' Im' p v := by
 induction h with
 | lit h => exact .lit h
 | row hl hc hz hR hI hn ho hr ih => exact .row hl hc hz (Row.mono m hR hI) (fun h => m.im _ (hI h)) hn ho ih
 | ptr hz hR hI hn ho hr ih => exact .ptr hz (Row.mono m hR hI) (fun h => m.im _ (hI h)) hn ho ih
theorem pre_get {μ μ' : Mu} (h : μ <+: μ') {o : Nat} {x : Option (Nat × Nat)} (hx : μ[o]? = some x) : μ'[o]? = some x := by
 obtain ⟨t, rfl⟩ := h
 rw [List.getElem?_append_left (List.getElem?_eq_some_iff.1 hx).1]
 exact hx
theorem SlOk.some {μ : Mu} {o z off len cap : Nat} {a : Option Addr} (h : SlOk μ[o]? z off len a cap) : ∃ x, μ[o]? = .some x := by
 obtain ⟨_, h⟩ := h
 cases hx : μ[o]? with
 | none => rw [hx] at h; exact h.elim
 | some x => exact ⟨x, rfl⟩
theorem RepV.mono {μ μ' : Mu} {Im Im' : Nat → Prop} {w w' : World} (m : Mono μ Im w μ' Im' w') {u : V} {v : Value} (h : RepV w Im μ u v) : RepV w' Im' μ' u v := by
 induction h with
 | lit h => exact .lit h
 | row h => exact .row (h.mono m)
 | xrow h => exact .xrow (h.mono m)
 | ref h => exact .ref (pre_get m.pre h)
 | sl h =>
  obtain ⟨x, hx⟩ := h.some
  refine .sl ?_
  rw [pre_get m.pre hx]
  rw [hx] at h
  exact h
 | rref hz hR hI hn ho hr => exact .rref hz (Row.mono m hR hI) (fun h => m.im _ (hI h)) hn ho (fun i c p h1 h2 => (hr i c p h1 h2).mono m)
 | agg hn ho _ ih => exact .agg hn ho ih
 | tup hn _ ih => exact .tup hn ih
 | clo hn _ ih => exact .clo hn ih
 | mref h => exact .mref (pre_get m.pre h)
theorem RepL.mono {μ μ' : Mu} {Im Im' : Nat → Prop} {w w' : World} (m : Mono μ Im w μ' Im' w') {l : List V} {C : List Value} (h : RepL w Im μ l C) : RepL w' Im' μ' l C :=
 ⟨h.1, fun i u c h1 h2 => (h.2 i u c h1 h2).mono m⟩
theorem RepPs.mono {μ μ' : Mu} {Im Im' : Nat → Prop} {w w' : World} (m : Mono μ Im w μ' Im' w') {l : List PV} {C : List Value} (h : RepPs w Im l C) : RepPs w' Im' l C :=
 ⟨h.1, fun i c p h1 h2 => (h.2 i c p h1 h2).mono m⟩
theorem EntR.mono {μ μ' : Mu} {Im Im' : Nat → Prop} {w w' : World} (m : Mono μ Im w μ' Im' w') {i : Nat} {x : (Int × Int × Bool) × List PV} {e : MapEntry} (h : EntR w Im i x e) : EntR w' Im' i x e := by
 obtain ⟨h1, h2, C, h3, h4, h5⟩ := h
 exact ⟨h1, h2, C, h3, h4, h5.mono m⟩
theorem RepO.mono {μ μ' : Mu} {Im Im' : Nat → Prop} {w w' : World} (m : Mono μ Im w μ' Im' w') {loc : Option (Nat × Nat)} {ob : Ob} (h : RepO w Im μ loc ob) (hb : ∀ b n, loc = some (b, n) → w'.heap[b]? = w.heap[b]?) : RepO w' Im' μ' loc ob := by
 cases ob with
 | cells l =>
  obtain ⟨b, C, D, rfl, ⟨T, hB⟩, ho, hl⟩ := h
  exact ⟨b, C, D, rfl, ⟨T, by rw [hb b _ rfl]; exact hB⟩, ho, hl.mono m⟩
 | row z l =>
  obtain ⟨hz, h⟩ := h
  refine ⟨hz, ?_⟩
  rcases h with h | ⟨b, C, rfl, ⟨T, hB⟩, hl, hr⟩
  ·
   exact .inl h
  ·
   exact .inr ⟨b, C, rfl, ⟨T, by rw [hb b _ rfl]; exact hB⟩, hl, fun i c p h1 h2 => (hr i c p h1 h2).mono m⟩
 | map l =>
  obtain ⟨b, es, rfl, hB, hl, hr⟩ := h
  exact ⟨b, es, rfl, by rw [hb b _ rfl]; exact hB, hl, fun i e x h1 h2 => (hr i e x h1 h2).mono m⟩
 | iter o n seen =>
  obtain ⟨b, q, k, rfl, hm, hB⟩ := h
  exact ⟨b, q, k, rfl, pre_get m.pre hm, by rw [hb b _ rfl]; exact hB⟩
theorem heap_lt {w : World} {b : Nat} {o : Obj} (h : w.heap[b]? = some o) : b < w.heap.size := (Array.getElem?_eq_some_iff.1 h).1
theorem RepO.lt {Im : Nat → Prop} {w : World} {μ : Mu} {b n : Nat} {ob : Ob} (h : RepO w Im μ (some (b, n)) ob) : b < w.heap.size := by
 cases ob with
 | cells l =>
  obtain ⟨b', C, D, e, hB, ho, _⟩ := h
  cases e
  exact hB.lt
 | row z l =>
  obtain ⟨_, h⟩ := h
  rcases h with ⟨h, _⟩ | ⟨b', C, e, hB, _, _⟩
  ·
   cases h
  ·
   cases e
   exact hB.lt
 | map l =>
  obtain ⟨b', es, e, hB, _⟩ := h
  cases e
  exact heap_lt hB
 | iter o n seen =>
  obtain ⟨b', q, k, e, _, hB⟩ := h
  cases e
  exact heap_lt hB
theorem Rel.lt {μ : Mu} {Im : Nat → Prop} {σ : St} {w : World} (r : Rel μ Im σ w) {b : Nat} (h : b ∈ live μ σ) : b < w.heap.size := by
 obtain ⟨o, n, ob, h1, h2⟩ := mem_live.1 h
 obtain ⟨loc, h3, h4⟩ := r.rep o ob h2
 rw [h1] at h3
 cases h3
 exact h4.lt

def fdV : Vg → Nat → Option V
 | [], _ => none
 | (s, v) :: r, t => match Nat.beq s t with | true => some v | false => fdV r t
theorem fdV_cons (s t : Nat) (v : V) (r : Vg) : fdV ((s, v) :: r) t = if s = t then some v else fdV r t := by
 unfold fdV
 by_cases h : s = t
 ·
  subst h
  rw [Nat.beq_refl, if_pos rfl]
 ·
  rw [if_neg h]
  have : Nat.beq s t = false := by
   cases hb : Nat.beq s t with
   | true => exact absurd (Nat.eq_of_beq_eq_true hb) h
   | false => rfl
  rw [this]
  cases r <;> rfl
def RepG (w : World) (Im : Nat → Prop) (μ : Mu) (ρ : Vg) (ρc : Rg) : Prop := ∀ t u, fdV ρ t = some u → ∃ v, fd ρc t = some v ∧ RepV w Im μ u v
theorem RepG.mono {μ μ' : Mu} {Im Im' : Nat → Prop} {w w' : World} (m : Mono μ Im w μ' Im' w') {ρ : Vg} {ρc : Rg} (h : RepG w Im μ ρ ρc) : RepG w' Im' μ' ρ ρc := fun t u hu => by
 obtain ⟨v, h1, h2⟩ := h t u hu
 exact ⟨v, h1, h2.mono m⟩
theorem RepG.cons {w : World} {Im : Nat → Prop} {μ : Mu} {ρ : Vg} {ρc : Rg} (h : RepG w Im μ ρ ρc) (t : Nat) {u : V} {v : Value} (hv : RepV w Im μ u v) : RepG w Im μ ((t, u) :: ρ) ((t, v) :: ρc) := fun s x hx => by
 rw [fdV_cons] at hx
 rw [fd_cons]
 split at hx
 ·
  cases hx; exact ⟨v, by simp [*], hv⟩
 ·
  rename_i hne
  obtain ⟨y, h1, h2⟩ := h s x hx
  exact ⟨y, by rw [if_neg hne]; exact h1, h2⟩

abbrev FV := Bool → V → Prop
abbrev KV := Bool → V → St → Prop
abbrev KS := Bool → St → Prop

def atK {α : Type} (l : List α) (i : Nat) (F : α → Prop) : Prop := match l[i]? with | some x => F x | none => False
def tkK {α : Type} (l : List α) (a n : Nat) (F : List α → Prop) : Prop := if a + n ≤ l.length then F ((l.drop a).take n) else False
def wrK {α : Type} (l : List α) (a : Nat) (c : List α) (F : List α → Prop) : Prop := if a + c.length ≤ l.length then F (l.take a ++ c ++ l.drop (a + c.length)) else False
def lenK {α : Type} (c : List α) (n : Nat) (p : Prop) : Prop := if c.length = n then p else False
def obV (σ : St) (o : Nat) (F : Ob → Prop) : Prop := atK σ o fun x => match x with | some ob => F ob | none => False
def adr (z i off : Nat) : Nat := i * z + off
def allOne (C : List Value) (p : Prop) : Prop := if C.all oneC = true then p else False

def clK (u : V) (F : List V → Prop) : Prop := match u with
 | .agg l => F l
 | .tup _ => False
 | u => F [u]
def pvK (u : V) (F : PV → Prop) : Prop := match u with
 | .lit v => F (.lit v)
 | .row z l => F (.row z l)
 | .xrow z l => F (.row z l)
 | .rref z l i off => F (.ptr z l i off)
 | _ => False
def pvsK : List V → (List PV → Prop) → Prop
 | [], F => F []
 | u :: us, F => pvK u fun p => pvsK us fun ps => F (p :: ps)

def agOf (P : Program) (t : TypeId) : Option (Option Nat) := match P.underlying t with
 | some d => bif aggD d then (szOf P t).map some else some none
 | none => none
def elOf (P : Program) (t : TypeId) : Option (TypeId × Nat) := match P.underlying t with
 | some (.slice e) => (szOf P e).map fun z => (e, z)
 | _ => none
def arOf (P : Program) (t : TypeId) : Option (Nat × TypeId × Nat) := match P.underlying t with
 | some (.array n e) => (szOf P e).map fun z => (n, e, z)
 | _ => none
def fdOf (P : Program) (t : TypeId) (j : Nat) : Option (Nat × Bool × Nat) := match P.underlying t with
 | some (.struct fs) => (match fs[j]? with
  | some f => (match P.underlying f.type, szOf P f.type with
   | some d, some (z + 1) => some (f.offset, aggD d, z + 1)
   | _, _ => none)
  | none => none)
 | _ => none
def knOf (P : Program) (t : TypeId) : Option IntKind := match P.underlying t with
 | some (.int k) => some k
 | _ => none
def isBool (P : Program) (t : TypeId) : Bool := match P.underlying t with
 | some .bool => true
 | _ => false
def isPtr (P : Program) (t : TypeId) : Bool := match P.underlying t with
 | some (.pointer _) => true
 | _ => false
def isSlc (P : Program) (t : TypeId) : Bool := match P.underlying t with
 | some (.slice _) => true
 | _ => false
def isStr (P : Program) (t : TypeId) : Bool := match P.underlying t with
 | some .string => true
 | _ => false

def lkV (ρ : Vg) (t : Nat) (K : V → Prop) : Prop := match fdV ρ t with | some v => K v | none => False
def cstV (v : Value) (K : V → Prop) : Prop := match v with
 | .agg cs => allOne cs.toList (K (.agg (cs.toList.map V.lit)))
 | .tuple _ => False
 | v => K (.lit v)
def evV (ρ : Vg) (x : Operand) (K : V → Prop) : Prop := match x with
 | .tmp t => lkV ρ t K
 | .const v => cstV v K
 | .global g => K (.lit (.pointer (some ⟨g, 0, none⟩)))
 | .func f => K (.clo f [])
def evsV (ρ : Vg) : List Operand → (List V → Prop) → Prop
 | [], K => K []
 | x :: xs, K => evV ρ x fun v => evsV ρ xs fun vs => K (v :: vs)
def evpV (ρ : Vg) : List (Nat × Operand) → (List (Nat × V) → Prop) → Prop
 | [], K => K []
 | (i, x) :: xs, K => evV ρ x fun v => evpV ρ xs fun vs => K ((i, v) :: vs)
def evoV (ρ : Vg) : Option Operand → (Option V → Prop) → Prop
 | none, K => K none
 | some x, K => evV ρ x fun v => K (some v)

def intI (op : BinOp) (i : IntKind) (a b : Int) : Option Value := match op with
 | .add => some (.int i (i.wrap (a + b)))
 | .sub => some (.int i (i.wrap (a - b)))
 | .mul => some (.int i (i.wrap (a * b)))
 | .quo => if b = 0 then none else some (.int i (i.wrap (a.tdiv b)))
 | .rem => if b = 0 then none else some (.int i (a.tmod b))
 | .lss => some (.bool (decide (a < b)))
 | .leq => some (.bool (decide (a ≤ b)))
 | .gtr => some (.bool (decide (b < a)))
 | .geq => some (.bool (decide (b ≤ a)))
 | .eql => some (.bool (decide (a = b)))
 | .neq => some (.bool (!decide (a = b)))
 | .and => some (.int i (bitK .and i a b))
 | .or => some (.int i (bitK .or i a b))
 | .xor => some (.int i (bitK .xor i a b))
 | .andNot => some (.int i (bitK .andNot i a b))
 | _ => none
def shI (op : BinOp) (i : IntKind) (a b : Int) : Option Value := match op with
 | .shl => if 0 ≤ b then some (.int i (i.wrap (a * 2 ^ min b.toNat i.bits))) else none
 | .shr => if 0 ≤ b then some (.int i (a / 2 ^ min b.toNat i.bits)) else none
 | _ => none
def isSh (op : BinOp) : Bool := match op with | .shl | .shr => true | _ => false
def litI (x : Option Value) (F : FV) : Prop := match x with | some v => F true (.lit v) | none => False
def isEq (op : BinOp) : Option Bool := match op with | .eql => some true | .neq => some false | _ => none
def boolI (op : BinOp) (a b : Bool) : Option Value := (isEq op).map fun e => .bool (e == (a == b))
def nilI (op : BinOp) (same : Bool) : Option Value := (isEq op).map fun e => .bool (e == same)
def eqK : List Bool → List V → List V → (Bool → Prop) → Prop
 | [], [], [], G => G true
 | true :: ks, .lit (.int i a) :: l, .lit (.int j b) :: m, G => if i = j then eqK ks l m fun r => G (decide (a = b) && r) else False
 | false :: ks, .lit (.bool a) :: l, .lit (.bool b) :: m, G => eqK ks l m fun r => G ((a == b) && r)
 | _, _, _, _ => False
def fk1 (P : Program) (f : Field) (j : Nat) : Option Bool := if f.name != "_" && f.offset == j then (match P.underlying f.type with | some (.int _) => some true | some .bool => some false | _ => none) else none
def fkL (P : Program) : List Field → Nat → Option (List Bool)
 | [], _ => some []
 | f :: fs, j => match fk1 P f j, fkL P fs (j + 1) with
  | some b, some r => some (b :: r)
  | _, _ => none
def fk2 (P : Program) (f : Field) (j : Nat) : Option (List Bool) := match fk1 P f j with
 | some b => some [b]
 | none => if f.name != "_" && f.offset == j then (match P.underlying f.type with
  | some (.struct gs) => if P.stoodInHeld f.type = false then (match fkL P gs.toList 0 with
   | some b => if P.cellsOf f.type = b.length then some b else none
   | none => none) else none
  | _ => none) else none
def fkM (P : Program) : List Field → Nat → Option (List Bool)
 | [], _ => some []
 | f :: fs, j => match fk2 P f j with
  | some b => (match fkM P fs (j + b.length) with
   | some r => some (b ++ r)
   | none => none)
  | none => none
def fkOf (P : Program) (t : TypeId) : Option (List Bool) := match P.underlying t with
 | some (.struct fs) => if P.eqGuardType P.depth t = false ∧ P.stoodInHeld t = false then fkM P fs.toList 0 else none
 | _ => none
def eqI (op : BinOp) (r : Bool) : Option Value := (isEq op).map fun e => .bool (e == r)
def bs (l : List UInt8) : ByteArray := ⟨l.toArray⟩
def strI (op : BinOp) (a b : ByteArray) : Option Value := match op with
 | .add => if a.size + b.size ≤ 9223372036854775807 then some (.string (a ++ b)) else none
 | op => eqI op (decide (a.data.toList = b.data.toList))

def nilB (op : BinOp) (emp : Bool) (F : FV) : Prop := bif emp then litI (nilI op true) F ∧ litI (nilI op false) F else litI (nilI op false) F
def binV (P : Program) (op : BinOp) (t : TypeId) (u v : V) (F : FV) : Prop := match u, v with
 | .lit (.int i a), .lit (.int j b) => if isSh op = true then litI (shI op i a b) F else if i = j then litI (intI op i a b) F else False
 | .lit (.bool a), .lit (.bool b) => if isBool P t = true then litI (boolI op a b) F else False
 | .lit (.pointer a), .lit (.pointer none) => if isPtr P t = true then litI (nilI op a.isNone) F else False
 | .ref _ _ _ _, .lit (.pointer none) => if isPtr P t = true then litI (nilI op false) F else False
 | .rref _ _ _ _, .lit (.pointer none) => if isPtr P t = true then litI (nilI op false) F else False
 | .lit (.slice none 0 0), .lit (.slice none 0 0) => if isSlc P t = true then litI (nilI op true) F else False
 | .row z l, .lit (.slice none 0 0) => if isSlc P t = true ∧ 0 < z then nilB op l.isEmpty F else False
 | .sl _ _ _ len, .lit (.slice none 0 0) => if isSlc P t = true then nilB op (decide (len = 0)) F else False
 | .lit (.string a), .lit (.string b) => litI (strI op a b) F
 | .agg l, .agg m => (match fkOf P t with
  | some ks => eqK ks l m fun r => litI (eqI op r) F
  | none => False)
 | _, _ => False
def isNilC : Operand → Bool
 | .const .nilIface => true
 | _ => false
def isIfc (P : Program) (t : TypeId) : Bool := match P.underlying t with
 | some (.interface _) => true
 | _ => false
def binW (P : Program) (op : BinOp) (t : TypeId) (y : Operand) (u v : V) (F : FV) : Prop := match u with
 | .lit .nilIface => (match v with | .lit .nilIface => if isIfc P t = true ∧ isNilC y = true then litI (nilI op true) F else False | _ => False)
 | .lit (.iface _ _) => (match v with | .lit .nilIface => if isIfc P t = true ∧ isNilC y = true then litI (nilI op false) F else False | _ => False)
 | u => binV P op t u v F
def mkiV (P : Program) (t : TypeId) (u : V) (F : FV) : Prop := match u with
 | .lit (.int i a) => (match P.underlying t with | some (.int _) => F true (.lit (.iface t (.int i a))) | _ => False)
 | _ => False
def mtOf (P : Program) (t : TypeId) (name : String) : Option FuncId := match P.info? t with
 | some info => (match info.methods.find? (·.name == name) with
  | some m => (match m.path.toList, m.func, P.underlying t with
   | [], some (f, false), some (.int _) => some f
   | _, _, _ => none)
  | none => none)
 | none => none
def unoV (op : UnOp) (u : V) (F : FV) : Prop := match op, u with
 | .not, .lit (.bool b) => F true (.lit (.bool !b))
 | .neg, .lit (.int i a) => F true (.lit (.int i (i.wrap (0 - a))))
 | .xor, .lit (.int i a) => F true (.lit (.int i (bitK .xor i (if i.signed then -1 else i.max) a)))
 | _, _ => False
def cvtV (P : Program) (s t : TypeId) (u : V) (F : FV) : Prop := match knOf P s, knOf P t, u with
 | some _, some k, .lit (.int _ a) => F true (.lit (.int k (k.wrap a)))
 | _, _, _ => False
def pickV (c x y : V) (F : FV) : Prop := match c with | .lit (.bool t) => F true (bif t then x else y) | _ => False
def ncV (u : V) (F : FV) : Prop := match u with
 | .ref o z i off => F true (.ref o z i off)
 | .rref z l i off => F true (.rref z l i off)
 | .clo f c => F true (.clo f c)
 | _ => False

def fadV (P : Program) (t : TypeId) (u : V) (j : Nat) (F : FV) : Prop := match fdOf P t j with
 | none => False
 | some (o, _, _) => match u with
  | .ref b z i off => F true (.ref b z i (off + o))
  | .rref z l i off => F true (.rref z l i (off + o))
  | _ => False
def fldV (P : Program) (t : TypeId) (u : V) (j : Nat) (F : FV) : Prop := match fdOf P t j with
 | none => False
 | some (o, ag, n) => match u with
  | .agg l => bif ag then tkK l o n fun r => F true (.agg r) else atK l o fun v => F true v
  | _ => False
def inK (u : V) (n : Nat) (G : Nat → Prop) : Prop := match u with
 | .lit (.int _ a) => if 0 ≤ a ∧ a < n then G a.toNat else False
 | _ => False
def idxV (P : Program) (t : TypeId) (u v : V) (F : FV) : Prop := match u with
 | .sl o z off len => (match elOf P t with
  | some (_, z') => if z' = z then inK v len fun m => F true (.ref o z (off + m) 0) else False
  | none => False)
 | .row z l | .xrow z l => (match elOf P t with
  | some (_, z') => if z' = z ∧ 0 < z then inK v l.length fun m => F true (.rref z l m 0) else False
  | none => False)
 | .ref o 0 0 off => (match arOf P t with
  | some (n, _, z) => inK v n fun m => F true (.ref o z m off)
  | none => False)
 | .lit (.pointer (some ⟨g, 0, none⟩)) => (match arOf P t with
  | some (n, _, 1) => inK v n fun m => F true (.lit (.pointer (some ⟨g, m, none⟩)))
  | _ => False)
 | _ => False
def strAt (s : ByteArray) (m : Nat) : Nat := (s.data.toList.getD m 0).toNat
def ixvV (P : Program) (t : TypeId) (u v : V) (F : FV) : Prop := match u with
 | .agg l => (match arOf P t with
  | some (n, e, z) => inK v n fun m => (match agOf P e with
   | some none => if z = 1 ∧ l.length = n then atK l m fun x => F true x else False
   | _ => False)
  | none => False)
 | .lit (.string s) => if isStr P t = true then inK v s.size fun m => F true (.lit (.int .u8 (strAt s m))) else False
 | _ => False
def extV (u : V) (j : Nat) (F : FV) : Prop := match u with
 | .tup l => atK l j fun x => F true x
 | _ => False

def bdK (u : V) (n : Nat) (G : Nat → Prop) : Prop := match u with
 | .lit (.int _ a) => if 0 ≤ a ∧ a ≤ n then G a.toNat else False
 | _ => False
def bdoK (u : Option V) (d n : Nat) (G : Nat → Prop) : Prop := match u with
 | some u => bdK u n G
 | none => G d
def slcA (P : Program) (t : TypeId) (u : V) (lo hi mx : Option V) (F : FV) : Prop := match elOf P t with
 | none => False
 | some (_, z') => match u with
  | .sl o z off len => if z' = z ∧ mx.isNone = true then bdoK hi len len fun h => bdoK lo 0 h fun l => F true (.sl o z (off + l) (h - l)) else False
  | .row z L => if z' = z then (match mx with
    | none => bdoK hi L.length L.length fun h => bdoK lo 0 h fun l => F true (.row z ((L.take h).drop l))
    | some m => if hi.isSome = true then bdK m L.length fun m => bdoK hi L.length m fun h => if m = h then bdoK lo 0 h fun l => F true (.xrow z ((L.take h).drop l)) else False else False) else False
  | .xrow z L => if z' = z ∧ mx.isNone = true then bdoK hi L.length L.length fun h => bdoK lo 0 h fun l => F true (.row z ((L.take h).drop l)) else False
  | .lit (.slice none 0 0) => if mx.isNone = true then bdoK hi 0 0 fun h => bdoK lo 0 h fun l => F true (.lit (.slice none 0 0)) else False
  | _ => False
def slcV (P : Program) (t : TypeId) (u : V) (lo hi mx : Option V) (F : FV) : Prop := match u with
 | .lit (.string s) => if isStr P t = true ∧ mx.isNone = true then bdoK hi s.size s.size fun h => bdoK lo 0 h fun l => F true (.lit (.string (s.extract l h))) else False
 | u => slcA P t u lo hi mx F
def obN : Ob → Nat
 | .cells l => l.length
 | .row z l => l.length * z
 | _ => 0
def slaV (P : Program) (t : TypeId) (o : Nat) (lo hi : Option V) (σ : St) (F : FV) : Prop := match arOf P t with
 | some (n, _, z) => obV σ o fun ob => if 0 < n * z ∧ n * z ≤ obN ob then bdoK hi n n fun h => bdoK lo 0 h fun l => F true (.sl o z l (h - l)) else False
 | none => False
def slcS (P : Program) (t : TypeId) (u : V) (lo hi mx : Option V) (σ : St) (F : FV) : Prop := match u, mx with
 | .ref o 0 0 0, none => slaV P t o lo hi σ F
 | u, mx => slcV P t u lo hi mx F

def fillK (place : Nat → Option (Nat × Nat)) : List (Nat × V) → List V → (List V → Prop) → Prop
 | [], l, G => G l
 | (i, u) :: r, l, G => match place i with
  | none => False
  | some (o, n) => clK u fun c => lenK c n (wrK l o c fun l' => fillK place r l' G)
def plOf (P : Program) (t : TypeId) (j : Nat) : Option (Nat × Nat) := match P.underlying t with
 | some (.struct fs) => (match fs[j]? with
  | some f => (szOf P f.type).map fun z => (f.offset, z)
  | none => none)
 | some (.array _ e) => (szOf P e).map fun z => (j * z, z)
 | _ => none
def isAg (P : Program) (t : TypeId) : Bool := match P.underlying t with
 | some d => aggD d
 | none => false
def szs (P : Program) (t : TypeId) : Bool := match P.underlying t with
 | some (.struct fs) => fs.toList.all fun f => (szOf P f.type).isSome
 | some (.array _ e) => (szOf P e).isSome
 | _ => true
def bldV (P : Program) (t : TypeId) (ps : List (Nat × V)) (F : FV) : Prop := match zeOf P t with
 | some C => if isAg P t = true ∧ szs P t = true then allOne C (fillK (plOf P t) ps (C.map V.lit) fun l => F true (.agg l)) else False
 | none => False

def mnmx (op : Builtin) (a b : Int) : Int := match op with
 | .min => min a b
 | _ => max a b
def intsV : List V → Option (List (IntKind × Int))
 | [] => some []
 | .lit (.int i a) :: r => (intsV r).map ((i, a) :: ·)
 | _ => none
def mmV (b : Builtin) (us : List V) (F : FV) : Prop := match intsV us with
 | some ((i, a) :: r) => F true (.lit (.int i (r.foldl (fun q x => mnmx b q x.2) a)))
 | _ => False

def valV (τ : Bool) (P : Program) (o : Oper) (ρ : Vg) (F : FV) : Prop := match o.op with
 | .move x | .assign x => evV ρ x fun u => F true u
 | .pick c x y => evV ρ c fun c => evV ρ x fun x => evV ρ y fun y => pickV c x y F
 | .nilCheck x => evV ρ x fun u => ncV u F
 | .binOp op t x y _ => evV ρ x fun u => evV ρ y fun v => binW P op t y u v F
 | .unOp op _ x => evV ρ x fun u => unoV op u F
 | .convert s d x => evV ρ x fun u => cvtV P s d u F
 | .slice t x lo hi mx => evV ρ x fun x => evoV ρ lo fun lo => evoV ρ hi fun hi => evoV ρ mx fun mx => slcV P t x lo hi mx F
 | .fieldAddr s x f => evV ρ x fun u => fadV P s u f F
 | .field t x f => evV ρ x fun u => fldV P t u f F
 | .indexAddr t x i => evV ρ x fun u => evV ρ i fun v => idxV P t u v F
 | .index t x i => evV ρ x fun u => evV ρ i fun v => ixvV P t u v F
 | .extract t i => evV ρ t fun u => extV u i F
 | .build t ps => evpV ρ ps.toList fun vs => bldV P t vs F
 | .makeInterface t x => evV ρ x fun u => mkiV P t u F
 | .call c => (match c.callee with
  | .builtin .min => evsV ρ c.args.toList fun us => mmV .min us F
  | .builtin .max => evsV ρ c.args.toList fun us => mmV .max us F
  | _ => False)
 | _ => False

def rdP (e : List PV) (off : Nat) (q : Option Nat) (F : FV) : Prop := match q with
 | none => atK e off fun p => F true (V.ofP p)
 | some n => tkK e off n fun r => F true (.agg (r.map V.ofP))
def rdO (ob : Ob) (z i off : Nat) (q : Option Nat) (F : FV) : Prop := match ob with
 | .cells l => (match q with
  | none => atK l (adr z i off) fun u => F true u
  | some n => tkK l (adr z i off) n fun r => F true (.agg r))
 | .row z' l => if z' = z then atK l i fun e => rdP e off q F else False
 | _ => False
def layAt (g m : Nat) : Option Value := (layT.find? fun e => e.1 == g).bind fun e => e.2[m]?
def layK (g m : Nat) (F : Value → Prop) : Prop := match layAt g m with | some v => if oneC v = true then F v else False | none => False
def rdV (u : V) (σ : St) (q : Option Nat) (F : FV) : Prop := match u with
 | .ref o z i off => obV σ o fun ob => rdO ob z i off q F
 | .rref z l i off => atK l i fun e => rdP e off q F
 | .lit (.pointer (some ⟨g, m, none⟩)) => (match q with | none => layK g m fun v => F true (.lit v) | some _ => False)
 | _ => False
def ldV (P : Program) (t : TypeId) (u : V) (σ : St) (F : FV) : Prop := match agOf P t with
 | some q => rdV u σ q F
 | none => False
def wrO (ob : Ob) (z i off : Nat) (c : List V) (G : Ob → Prop) : Prop := match ob with
 | .cells l => wrK l (adr z i off) c fun l' => G (.cells l')
 | .row z' l => if z' = z then atK l i fun e => pvsK c fun ps => wrK e off ps fun e' => G (.row z (l.set i e')) else False
 | _ => False
def wrV (u : V) (σ : St) (c : List V) (K : KS) : Prop := match u with
 | .ref o z i off => obV σ o fun ob => wrO ob z i off c fun ob' => K true (σ.set o (some ob'))
 | _ => False
def stV (P : Program) (t : TypeId) (u v : V) (σ : St) (K : KS) : Prop := match szOf P t with
 | some (n + 1) => clK v fun c => lenK c (n + 1) (wrV u σ c K)
 | _ => False

def litB : V → Bool
 | .lit _ => true
 | _ => false
def sameV (u : V) (σ : St) (c : List V) (p : Prop) : Prop := match u with
 | .ref o z i off => obV σ o fun ob => match ob with
  | .cells l => tkK l (adr z i off) c.length fun c' => c' = c ∧ c.all litB = true ∧ p
  | _ => False
 | _ => False
def stE (P : Program) (t : TypeId) (u v : V) (σ : St) (p : Prop) : Prop := match szOf P t with
 | some (n + 1) => clK v fun c => lenK c (n + 1) (sameV u σ c p)
 | _ => False

def rowO (ob : Ob) (z off len : Nat) (G : List (List PV) → Prop) : Prop := match ob with
 | .row z'' l => if z'' = z ∧ off + len ≤ l.length then G ((l.drop off).take len) else False
 | _ => False
def rowK (u : V) (σ : St) (z : Nat) (G : List (List PV) → Prop) : Prop := match u with
 | .row z' l | .xrow z' l => if z' = z then G l else False
 | .lit (.slice none 0 0) => G []
 | .sl o z' off len => if z' = z then obV σ o fun ob => rowO ob z off len G else False
 | _ => False
def newO (σ : St) (ob : Ob) (K : Nat → St → Prop) : Prop := K σ.length (σ ++ [some ob])
def alcV (P : Program) (t : TypeId) (σ : St) (K : KV) : Prop := match zeOf P t with
 | some C => allOne C (newO σ (.cells (C.map V.lit)) fun o σ' => K true (.ref o 0 0 0) σ')
 | none => False
def boxV (u : V) (σ : St) (K : KV) : Prop := clK u fun l => newO σ (.cells l) fun o σ' => K true (.ref o 0 0 0) σ'
def prtK (z : Nat) : Nat → List (Nat × V) → (List (List PV) → Prop) → Prop
 | _, [], G => G []
 | j, (i, u) :: r, G => if i = j then clK u fun c => lenK c z (pvsK c fun e => prtK z (j + 1) r fun es => G (e :: es)) else False
def bslV (P : Program) (t : TypeId) (n : Nat) (ps : List (Nat × V)) (σ : St) (K : KV) : Prop := match elOf P t with
 | some (e, z) => if (zeOf P e).isSome = true ∧ 0 < z ∧ n * z ≤ 16777216 then prtK z 0 ps fun l => lenK l n (newO σ (.row z l) fun o σ' => K true (.sl o z 0 n) σ') else False
 | none => False
def zrow (C : List Value) (n : Nat) : List (List PV) := List.replicate n (C.map PV.lit)
def mslU (z y : Nat) (C : List Value) (l c : V) (σ : St) (K : KV) : Prop := match l, c with
 | .lit (.int .i64 a), .lit (.int .i64 b) => if 0 ≤ a ∧ a = b ∧ a * y ≤ 140737488355328 ∧ a < 4611686018427387904 ∧ 0 < y ∧ C.length = z then allOne C (newO σ (.row z (zrow C a.toNat)) fun o σ' => K true (.sl o z 0 a.toNat) σ') else False
 | _, _ => False
def mslV (P : Program) (t : TypeId) (l c : V) (σ : St) (K : KV) : Prop := match elOf P t with
 | some (e, z) => (match zeOf P e, byOf P e with
  | some C, some y => mslU z y C l c σ K
  | _, _ => False)
 | none => False
def isByt (P : Program) (t : TypeId) : Bool := match P.underlying t with
 | some (.slice e) => (match P.underlying e, szOf P e with | some (.int .u8), some 1 => true | _, _ => false)
 | _ => false
def bytK : List (List PV) → (List UInt8 → Prop) → Prop
 | [], G => G []
 | [.lit (.int .u8 n)] :: r, G => bytK r fun b => G (UInt8.ofNat n.toNat :: b)
 | _ :: _, _ => False
def cvsV (P : Program) (s t : TypeId) (u : V) (σ : St) (F : FV) : Prop := if isByt P s = true ∧ isStr P t = true then rowK u σ 1 fun l => bytK l fun b => F true (.lit (.string (bs b))) else cvtV P s t u F
def sbyV (P : Program) (s t : TypeId) (u : V) (σ : St) (K : KV) : Prop := if isStr P s = true ∧ isByt P t = true then (match u with | .lit (.string b) => K true (.row 1 (b.data.toList.map fun x => [PV.lit (.int .u8 (x.toNat : Int))])) σ | _ => False) else cvsV P s t u σ fun τ u => K τ u σ
def lenV (u : V) (F : FV) : Prop := match u with
 | .row _ l | .xrow _ l => F true (.lit (.int .i64 l.length))
 | .sl _ _ _ len => F true (.lit (.int .i64 len))
 | .lit (.slice none 0 0) => F true (.lit (.int .i64 (0 : Nat)))
 | _ => False
def lenW (P : Program) (t : TypeId) (u : V) (F : FV) : Prop := match u with
 | .lit (.string s) => if isStr P t = true then F true (.lit (.int .i64 s.size)) else False
 | u => (match elOf P t with
  | some _ => lenV u F
  | none => False)
def apdO (ob : Ob) (z y len o : Nat) (m : List (List PV)) (σ : St) (K : KV) : Prop := match ob with
 | .row z'' l => if z'' = z ∧ l.length = len ∧ (len + m.length) * 2 * y ≤ 281474976710656 then newO (σ.set o none) (.row z (l ++ m)) fun o' σ' => K true (.sl o' z 0 (len + m.length)) σ' else False
 | _ => False
def apdU (e : Bool) (z y : Nat) (u : V) (m : List (List PV)) (σ : St) (K : KV) : Prop := match u with
 | .sl o z' off len => if e = false ∧ z' = z ∧ off = 0 then obV σ o fun ob => apdO ob z y len o m σ K else False
 | .lit (.slice none 0 0) => if m.length * 2 * y ≤ 281474976710656 then newO σ (.row z m) fun o' σ' => K true (.sl o' z 0 m.length) σ' else False
 | .xrow z' l => if z' = z ∧ 0 < m.length ∧ (l.length + m.length) * 2 * y ≤ 281474976710656 then newO σ (.row z (l ++ m)) fun o' σ' => K true (.sl o' z 0 (l.length + m.length)) σ' else False
 | _ => False
def apdV (P : Program) (e : Bool) (t tx : TypeId) (u x : V) (σ : St) (K : KV) : Prop := match elOf P t, elOf P tx with
 | some (et, z), some (_, zx) => (match zeOf P et, byOf P et with
  | some C, some y => if 0 < y ∧ C.length = z ∧ zx = z then rowK x σ z fun m => apdU e z y u m σ K else False
  | _, _ => False)
 | _, _ => False
def cpyO (ob : Ob) (z o off len : Nat) (m : List (List PV)) (σ : St) (K : KV) : Prop := match ob with
 | .row z'' l => if z'' = z ∧ off + len ≤ l.length then K true (.lit (.int .i64 m.length)) (σ.set o (some (.row z (l.take off ++ m ++ l.drop (off + m.length))))) else False
 | _ => False
def cpyU (z : Nat) (u : V) (m : List (List PV)) (σ : St) (K : KV) : Prop := match u with
 | .sl o z' off len => if z' = z ∧ m.length ≤ len then obV σ o fun ob => cpyO ob z o off len m σ K else False
 | _ => False
def cpyV (P : Program) (t tx : TypeId) (u x : V) (σ : St) (K : KV) : Prop := match elOf P t, elOf P tx with
 | some (_, z), some (_, zx) => if zx = z then rowK x σ z fun m => cpyU z u m σ K else False
 | _, _ => False
def kyK (u : V) (F : Int × Int × Bool → Prop) : Prop := match u with
 | .agg [.lit (.int .i64 a), .lit (.int .i64 b), .lit (.bool c)] => F (a, b, c)
 | _ => False
def kyOf (P : Program) (t : TypeId) : Bool := match P.underlying t with
 | some (.struct fs) => decide (fkL P fs.toList 0 = some [true, true, false]) && !P.stoodInHeld t
 | _ => false
def aggZ (P : Program) (t : TypeId) : Option (List Value) := match (P.info? t).bind (·.zero) with
 | some (.agg a) => some a.toList
 | _ => none
def mpOf (P : Program) (t : TypeId) : Option (List Value) := match P.underlying t with
 | some (.map k e) => if kyOf P k = true then aggZ P e else none
 | _ => none
abbrev ML := List ((Int × Int × Bool) × List PV)
def lookM (k : Int × Int × Bool) : ML → Option (List PV)
 | [] => none
 | (k', x) :: l => if k' = k then some x else lookM k l
def putM (k : Int × Int × Bool) (x : List PV) : ML → ML
 | [] => [(k, x)]
 | (k', x') :: l => if k' = k then (k', x) :: l else (k', x') :: putM k x l
def mpO (ob : Ob) (F : ML → Prop) : Prop := match ob with | .map l => F l | _ => False
def obM (σ : St) (u : V) (F : Nat → ML → Prop) : Prop := match u with
 | .mref o => obV σ o fun ob => mpO ob fun l => F o l
 | _ => False
def lupV (P : Program) (t : TypeId) (u v : V) (σ : St) (F : FV) : Prop := match mpOf P t with
 | some C => allOne C (obM σ u fun _ l => kyK v fun k => F true (.agg (((lookM k l).getD (C.map PV.lit)).map V.ofP)))
 | none => False
def agK (u : V) (F : List V → Prop) : Prop := match u with | .agg c => F c | _ => False
def mupV (P : Program) (t : TypeId) (u k x : V) (σ : St) (K : KS) : Prop := match mpOf P t with
 | some _ => obM σ u fun o l => kyK k fun k => agK x fun c => pvsK c fun ps => K true (σ.set o (some (.map (putM k ps l))))
 | none => False
def mkmV (P : Program) (t : TypeId) (σ : St) (K : KV) : Prop := match mpOf P t with
 | some _ => newO σ (.map []) fun o σ' => K true (.mref o) σ'
 | none => False
def rngV (P : Program) (t : TypeId) (u : V) (σ : St) (K : KV) : Prop := match mpOf P t with
 | some _ => obM σ u fun o l => newO σ (.iter o l.length []) fun i σ' => K true (.ref i 0 0 0) σ'
 | none => False
def allSeen (n : Nat) (seen : List Nat) : Prop := ∀ i, i < n → i ∈ seen
def kyV (k : Int × Int × Bool) : V := .agg [.lit (.int .i64 k.1), .lit (.int .i64 k.2.1), .lit (.bool k.2.2)]
def itO (ob : Ob) (F : Nat → Nat → List Nat → Prop) : Prop := match ob with | .iter o n s => F o n s | _ => False
def nxtV (u : V) (σ : St) (K : KV) : Prop := match u with
 | .ref i 0 0 0 => obV σ i fun ob => itO ob fun o n seen => obM σ (.mref o) fun _ l => n = l.length ∧ (allSeen n seen → K true (.tup [.lit (.bool false)]) σ) ∧
   ∀ j k x, l[j]? = some (k, x) → j ∉ seen → K true (.tup [.lit (.bool true), kyV k, .agg (x.map V.ofP)]) (σ.set i (some (.iter o n (seen ++ [j]))))
 | _ => False
def entV (u : V) (σ : St) (K : KV) : Prop := match u with
 | .ref i 0 0 0 => obV σ i fun ob => itO ob fun o n seen => obM σ (.mref o) fun _ l => n = l.length ∧ (match seen.getLast? with
  | some j => atK l j fun e => K true (.tup [kyV e.1, .agg (e.2.map V.ofP)]) σ
  | none => False)
 | _ => False
def callV (P : Program) (e : Bool) (f : FuncId) (vs : List V) (σ : St) (K : KV) : Prop :=
 ∀ (μ : Mu) (Im : Nat → Prop) (w : World) (args : List Value), Rel μ Im σ w → RepL w Im μ vs args →
  cllK P f args w fun _ v w' => ∃ u σ' μ' Im', Rel μ' Im' σ' w' ∧ Stp μ Im σ w μ' Im' σ' w' ∧ (e = true → Ext [] w w') ∧ RepV w' Im' μ' u v ∧ K true u σ'
theorem cllK_mono {P : Program} {f : FuncId} {args : List Value} {w : World} {K K' : Kv} (h : cllK P f args w K) (hk : ∀ v w', K true v w' → K' true v w') : cllK P f args w K' := by
 unfold cllK callK at *
 refine runK_mono h fun n w' hn => ?_
 cases n with
 | enter g xs => exact Calls.mono hn fun e w'' ⟨v, he, hv⟩ => ⟨v, he, hk _ _ hv⟩
 | value v => exact hk _ _ hn
 | _ => exact hn
theorem callV_mk {P : Program} {e : Bool} {f : FuncId} {vs : List V} {σ : St} {K : KV} (hc : ∀ (args : Array Value) (w : World), (callFunc f args).run P w = .ok (.enter f args) w)
  (h : ∀ (μ : Mu) (Im : Nat → Prop) (w : World) (args : List Value), Rel μ Im σ w → RepL w Im μ vs args →
   Rets P f args w fun v w' => ∃ u σ' μ' Im', Rel μ' Im' σ' w' ∧ Stp μ Im σ w μ' Im' σ' w' ∧ (e = true → Ext [] w w') ∧ RepV w' Im' μ' u v ∧ K true u σ') : callV P e f vs σ K :=
 fun μ Im w args r hr => cllK_of hc (h μ Im w args r hr) fun _ _ hv => hv
def calV (P : Program) (e : Bool) (f : V) (args : List V) (σ : St) (K : KV) : Prop := match f with
 | .clo g c => callV P e g (args ++ c) σ K
 | _ => False
def invV (P : Program) (e : Bool) (u : V) (name : String) (args : List V) (σ : St) (K : KV) : Prop := match u with
 | .lit (.iface t (.int i a)) => (match mtOf P t name with | some f => callV P e f (.lit (.int i a) :: args) σ K | none => False)
 | _ => False
def bltV (P : Program) (e : Bool) (b : Builtin) (ats : List TypeId) (args : List V) (σ : St) (K : KV) : Prop := match b, ats, args with
 | .len, [t], [u] => lenW P t u fun τ u => K τ u σ
 | .append, [t, tx], [u, x] => apdV P e t tx u x σ K
 | .copy, [t, tx], [u, x] => bif e then False else cpyV P t tx u x σ K
 | .min, _, us => mmV .min us fun τ u => K τ u σ
 | .max, _, us => mmV .max us fun τ u => K τ u σ
 | _, _, _ => False

def opV (τ e : Bool) (P : Program) (o : Oper) (ρ : Vg) (σ : St) (K : KV) : Prop := match o.op with
 | .alloc t => alcV P t σ K
 | .box _ x => evV ρ x fun u => boxV u σ K
 | .build t ps => evpV ρ ps.toList fun vs => bldV P t vs fun τ u => K τ u σ
 | .buildSlice t n ps => evpV ρ ps.toList fun vs => bslV P t n vs σ K
 | .convert s t x => evV ρ x fun u => sbyV P s t u σ K
 | .load t a => evV ρ a fun u => ldV P t u σ fun τ v => K τ v σ
 | .slice t x lo hi mx => evV ρ x fun u => evoV ρ lo fun l => evoV ρ hi fun h => evoV ρ mx fun m => slcS P t u l h m σ fun τ u => K τ u σ
 | .store t a x => evV ρ a fun u => evV ρ x fun v => bif e then stE P t u v σ (K true (.tup []) σ) else stV P t u v σ fun τ σ' => K τ (.tup []) σ'
 | .lookup t x i c => (match c with | false => evV ρ x fun u => evV ρ i fun v => lupV P t u v σ fun τ u => K τ u σ | true => False)
 | .mapUpdate t m k x => evV ρ m fun u => evV ρ k fun k => evV ρ x fun x => bif e then False else mupV P t u k x σ fun τ σ' => K τ (.tup []) σ'
 | .insert t m k x => evV ρ m fun u => evV ρ k fun k => evV ρ x fun x => bif e then False else mupV P t u k x σ fun τ σ' => K τ (.tup []) σ'
 | .makeMap t r => (match r with | none => mkmV P t σ K | some _ => False)
 | .range t x => evV ρ x fun u => rngV P t u σ K
 | .next x s => (match s with | false => evV ρ x fun u => bif e then False else nxtV u σ K | true => False)
 | .entry x => evV ρ x fun u => entV u σ K
 | .makeFunc fn first captured => (match fn, first.toList with
  | .func f, [] => evsV ρ captured.toList fun c => K true (.clo f c) σ
  | _, _ => False)
 | .makeSlice t l c => evV ρ l fun l => evV ρ c fun c => mslV P t l c σ K
 | .call c => (match c.callee with
  | .value f => evV ρ f fun f => evsV ρ c.args.toList fun args => calV P e f args σ K
  | .builtin b => evsV ρ c.args.toList fun args => bltV P e b c.argTypes.toList args σ K
  | .invoke r name => evV ρ r fun u => evsV ρ c.args.toList fun args => invV P e u name args σ K)
 | _ => valV τ P o ρ fun τ u => K τ u σ
section
variable {w : World} {Im : Nat → Prop} {μ : Mu} {ρ : Vg} {ρc : Rg} {P : Program}

theorem RepL.nil : RepL w Im μ [] [] := ⟨rfl, fun i u c h => by simp at h⟩
theorem RepL.cons {u : V} {v : Value} {us : List V} {vs : List Value} (h : RepV w Im μ u v) (hs : RepL w Im μ us vs) : RepL w Im μ (u :: us) (v :: vs) :=
 ⟨by simp [hs.1], fun i x c hx hc => by
  cases i with
  | zero => simp at hx hc; subst hx hc; exact h
  | succ i => simp at hx hc; exact hs.2 i x c hx hc⟩
theorem RepL.uncons {u : V} {us : List V} {C : List Value} (h : RepL w Im μ (u :: us) C) : ∃ v vs, C = v :: vs ∧ RepV w Im μ u v ∧ RepL w Im μ us vs := by
 obtain ⟨hn, h⟩ := h
 cases C with
 | nil => simp at hn
 | cons v vs => exact ⟨v, vs, rfl, h 0 u v rfl rfl, by simpa using hn, fun i x c hx hc => h (i + 1) x c (by simpa using hx) (by simpa using hc)⟩
theorem RepL.get {l : List V} {C : List Value} (h : RepL w Im μ l C) {i : Nat} {u : V} (hu : l[i]? = some u) : ∃ c, C[i]? = some c ∧ RepV w Im μ u c := by
 have hi := (List.getElem?_eq_some_iff.1 hu).1
 have : C[i]? = some (C[i]'(by rw [h.1]; exact hi)) := List.getElem?_eq_getElem _
 exact ⟨_, this, h.2 i u _ hu this⟩
theorem RepL.part {l : List V} {C : List Value} (h : RepL w Im μ l C) (a n : Nat) : RepL w Im μ ((l.drop a).take n) ((C.drop a).take n) :=
 ⟨by simp [h.1], fun i u c hu hc => by
  rw [List.getElem?_take] at hu hc
  split at hu
  ·
   rename_i hi
   rw [if_pos hi] at hc
   rw [List.getElem?_drop] at hu hc
   exact h.2 _ u c hu hc
  ·
   cases hu⟩
theorem RepL.append {l l' : List V} {C C' : List Value} (h : RepL w Im μ l C) (h' : RepL w Im μ l' C') : RepL w Im μ (l ++ l') (C ++ C') :=
 ⟨by simp [h.1, h'.1], fun i u c hu hc => by
  by_cases hi : i < l.length
  ·
   rw [List.getElem?_append_left hi] at hu
   rw [List.getElem?_append_left (by rw [h.1]; exact hi)] at hc
   exact h.2 i u c hu hc
  ·
   rw [List.getElem?_append_right (by omega)] at hu
   rw [List.getElem?_append_right (by rw [h.1]; omega), h.1] at hc
   exact h'.2 _ u c hu hc⟩
theorem RepL.lits : ∀ {C : List Value}, C.all oneC = true → RepL w Im μ (C.map V.lit) C
 | [], _ => .nil
 | v :: C, h => by
  simp only [List.all_cons, Bool.and_eq_true] at h
  exact .cons (.lit h.1) (RepL.lits h.2)
theorem allOne_iff {C : List Value} {p : Prop} : allOne C p ↔ (C.all oneC = true ∧ p) := by
 unfold allOne
 split <;> simp [*]
theorem all_mem {C : List Value} (h : C.all oneC = true) : ∀ c ∈ C, oneC c = true := List.all_eq_true.1 h

theorem lkV_sound {t : Nat} {K : V → Prop} (hg : RepG w Im μ ρ ρc) (h : lkV ρ t K) : ∃ u v, RepV w Im μ u v ∧ K u ∧ ∀ K' : Value → Prop, lk ρc t K' = K' v := by
 unfold lkV at h
 cases hf : fdV ρ t with
 | none => rw [hf] at h; exact h.elim
 | some u =>
  rw [hf] at h
  obtain ⟨v, h1, h2⟩ := hg t u hf
  exact ⟨u, v, h2, h, fun K' => by simp [lk, h1]⟩
theorem cstV_sound {v : Value} {K : V → Prop} (h : cstV v K) : ∃ u, RepV w Im μ u v ∧ K u := by
 unfold cstV at h
 split at h
 ·
  rename_i cs
  obtain ⟨h1, h2⟩ := allOne_iff.1 h
  refine ⟨_, ?_, h2⟩
  have hl : RepL w Im μ (cs.toList.map V.lit) cs.toList := RepL.lits h1
  have : Value.agg cs = Value.agg cs.toList.toArray := by simp
  rw [this]
  exact .agg hl.1 (all_mem h1) hl.2
 ·
  exact h.elim
 ·
  rename_i h1 h2
  refine ⟨_, .lit ?_, h⟩
  cases v <;> first | rfl | exact absurd rfl (h1 _) | exact absurd rfl (h2 _)
theorem evV_sound {x : Operand} {K : V → Prop} (hg : RepG w Im μ ρ ρc) (h : evV ρ x K) : ∃ u v, RepV w Im μ u v ∧ K u ∧ ∀ K' : Value → Prop, evK ρc x K' = K' v := by
 cases x with
 | tmp t => exact lkV_sound hg h
 | const v =>
  obtain ⟨u, h1, h2⟩ := cstV_sound (w := w) (Im := Im) (μ := μ) (h : cstV v K)
  exact ⟨u, v, h1, h2, fun _ => rfl⟩
 | global g => exact ⟨_, _, .lit rfl, h, fun _ => rfl⟩
 | func f => exact ⟨_, _, .clo (C := []) rfl (fun i u c h => by simp at h), h, fun _ => rfl⟩
theorem evsV_sound (hg : RepG w Im μ ρ ρc) : ∀ {xs : List Operand} {K : List V → Prop}, evsV ρ xs K → ∃ us vs, RepL w Im μ us vs ∧ K us ∧ ∀ K' : List Value → Prop, evsK ρc xs K' = K' vs
 | [], K, h => ⟨[], [], .nil, h, fun _ => rfl⟩
 | x :: xs, K, h => by
  obtain ⟨u, v, h1, h2, h3⟩ := evV_sound hg h
  obtain ⟨us, vs, h4, h5, h6⟩ := evsV_sound hg h2
  exact ⟨_, _, .cons h1 h4, h5, fun K' => by simp only [evsK, h3, h6]⟩
theorem evpV_sound (hg : RepG w Im μ ρ ρc) : ∀ {xs : List (Nat × Operand)} {K : List (Nat × V) → Prop}, evpV ρ xs K → ∃ (js : List Nat) (us : List V) (vs : List Value), js.length = us.length ∧ RepL w Im μ us vs ∧ K (js.zip us) ∧ ∀ K' : List (Nat × Value) → Prop, evpK ρc xs K' = K' (js.zip vs)
 | [], K, h => ⟨[], [], [], rfl, .nil, h, fun _ => rfl⟩
 | (i, x) :: xs, K, h => by
  obtain ⟨u, v, h1, h2, h3⟩ := evV_sound hg h
  obtain ⟨js, us, vs, h0, h4, h5, h6⟩ := evpV_sound hg h2
  exact ⟨i :: js, u :: us, v :: vs, by simp [h0], .cons h1 h4, h5, fun K' => by simp only [evpK, h3, h6, List.zip_cons_cons]⟩
def RepOp (w : World) (Im : Nat → Prop) (μ : Mu) : Option V → Option Value → Prop
 | none, none => True
 | some u, some v => RepV w Im μ u v
 | _, _ => False
theorem evoV_sound (hg : RepG w Im μ ρ ρc) {x : Option Operand} {K : Option V → Prop} (h : evoV ρ x K) : ∃ u v, RepOp w Im μ u v ∧ K u ∧ ∀ K' : Option Value → Prop, evoK ρc x K' = K' v := by
 cases x with
 | none => exact ⟨none, none, trivial, h, fun _ => rfl⟩
 | some x =>
  obtain ⟨u, v, h1, h2, h3⟩ := evV_sound hg (K := fun u => K (some u)) h
  exact ⟨some u, some v, h1, h2, fun K' => by simp only [evoK, h3]⟩

theorem intI_sound {op : BinOp} {t : TypeId} {x y : Operand} {i : IntKind} {a b : Int} {r : Value} (h : intI op i a b = some r) : oneC r = true ∧ ∀ (w : World) (k : Kv), binK P op t x y (.int i a) (.int i b) w k = k true r w := by
 cases op with
 | add => cases h; exact ⟨rfl, fun w k => binK_add⟩
 | sub => cases h; exact ⟨rfl, fun w k => binK_sub⟩
 | mul => cases h; exact ⟨rfl, fun w k => binK_mul⟩
 | quo =>
  simp only [intI] at h
  split at h
  ·
   cases h
  ·
   cases h; exact ⟨rfl, fun w k => binK_quo ‹_›⟩
 | rem =>
  simp only [intI] at h
  split at h
  ·
   cases h
  ·
   cases h; exact ⟨rfl, fun w k => binK_rem ‹_›⟩
 | lss => cases h; exact ⟨rfl, fun w k => binK_lss⟩
 | leq => cases h; exact ⟨rfl, fun w k => binK_leq⟩
 | gtr => cases h; exact ⟨rfl, fun w k => binK_gtr⟩
 | geq => cases h; exact ⟨rfl, fun w k => binK_geq⟩
 | eql => cases h; exact ⟨rfl, fun w k => binK_eql⟩
 | neq => cases h; exact ⟨rfl, fun w k => binK_neq⟩
 | and => cases h; exact ⟨rfl, fun w k => binK_and⟩
 | or => cases h; exact ⟨rfl, fun w k => binK_or⟩
 | xor => cases h; exact ⟨rfl, fun w k => binK_xor⟩
 | andNot => cases h; exact ⟨rfl, fun w k => binK_andNot⟩
 | _ => cases h
theorem shI_sound {op : BinOp} {t : TypeId} {x y : Operand} {i j : IntKind} {a b : Int} {r : Value} (h : shI op i a b = some r) : oneC r = true ∧ ∀ (w : World) (k : Kv), binK P op t x y (.int i a) (.int j b) w k = k true r w := by
 cases op with
 | shl =>
  simp only [shI] at h
  split at h
  ·
   cases h; exact ⟨rfl, fun w k => binK_shl ‹_›⟩
  ·
   cases h
 | shr =>
  simp only [shI] at h
  split at h
  ·
   cases h; exact ⟨rfl, fun w k => binK_shr ‹_›⟩
  ·
   cases h
 | _ => cases h
theorem isBool_spec {t : TypeId} (h : isBool P t = true) : P.underlying t = some .bool := by
 unfold isBool at h
 split at h
 ·
  assumption
 ·
  cases h
theorem isPtr_spec {t : TypeId} (h : isPtr P t = true) : ∃ e, P.underlying t = some (.pointer e) := by
 unfold isPtr at h
 split at h
 ·
  rename_i e he; exact ⟨e, he⟩
 ·
  cases h
theorem boolI_sound {op : BinOp} {t : TypeId} {x y : Operand} {a b : Bool} {r : Value} (ht : P.underlying t = some .bool) (h : boolI op a b = some r) : oneC r = true ∧ ∀ (w : World) (k : Kv), binK P op t x y (.bool a) (.bool b) w k = k true r w := by
 cases op <;> simp only [boolI, isEq, Option.map_some, Option.map_none, Option.some.injEq, reduceCtorEq] at h
 ·
  subst h; exact ⟨rfl, fun w k => by rw [binK_bool ht]; simp⟩
 ·
  subst h; exact ⟨rfl, fun w k => by rw [binK_nbool ht]; simp⟩
theorem nilI_sound {op : BinOp} {t e : TypeId} {x y : Operand} {a : Option Addr} {r : Value} (ht : P.underlying t = some (.pointer e)) (h : nilI op a.isNone = some r) : oneC r = true ∧ ∀ (w : World) (k : Kv), binK P op t x y (.pointer a) (.pointer none) w k = k true r w := by
 cases op <;> simp only [nilI, isEq, Option.map_some, Option.map_none, Option.some.injEq, reduceCtorEq] at h
 ·
  subst h; exact ⟨rfl, fun w k => by rw [binK_ptr_nil ht]; simp⟩
 ·
  subst h; exact ⟨rfl, fun w k => by rw [binK_ptr_nnil ht]; simp⟩
theorem isSlc_spec {t : TypeId} (h : isSlc P t = true) : ∃ e, P.underlying t = some (.slice e) := by
 unfold isSlc at h
 split at h
 ·
  rename_i e he; exact ⟨e, he⟩
 ·
  cases h
theorem isStr_spec {t : TypeId} (h : isStr P t = true) : P.underlying t = some .string := by
 unfold isStr at h
 split at h
 ·
  assumption
 ·
  cases h
theorem nilS_sound {op : BinOp} {t e : TypeId} {x y : Operand} {a : Option Addr} {n c : Nat} {r : Value} (ht : P.underlying t = some (.slice e)) (h : nilI op a.isNone = some r) : oneC r = true ∧ ∀ (w : World) (k : Kv), binK P op t x y (.slice a n c) (.slice none 0 0) w k = k true r w := by
 cases op <;> simp only [nilI, isEq, Option.map_some, Option.map_none, Option.some.injEq, reduceCtorEq] at h
 ·
  subst h; exact ⟨rfl, fun w k => by rw [binK_slice_nil ht]; simp⟩
 ·
  subst h; exact ⟨rfl, fun w k => by rw [binK_slice_nnil ht]; simp⟩
theorem litI_sound {x : Option Value} {F : FV} (h : litI x F) : ∃ v, x = some v ∧ F true (.lit v) := by
 cases x with
 | none => exact h.elim
 | some v => exact ⟨v, rfl, h⟩

def Comes (w : World) (Im : Nat → Prop) (μ : Mu) (F : FV) (op : World → Kv → Prop) : Prop := ∃ u v, RepV w Im μ u v ∧ F true u ∧ ∀ w' (k : Kv), op w' k = k true v w'

theorem nilB_sound {op : BinOp} {t e : TypeId} {x y : Operand} {a : Option Addr} {n c : Nat} {emp : Bool} {F : FV} (ht : P.underlying t = some (.slice e)) (he : emp = false → a.isNone = false) (h : nilB op emp F) : Comes w Im μ F fun w' k => binK P op t x y (.slice a n c) (.slice none 0 0) w' k := by
 have h' : litI (nilI op a.isNone) F := by
  unfold nilB at h
  cases emp with
  | true =>
   simp only [cond_true] at h
   cases a.isNone with
   | true => exact h.1
   | false => exact h.2
  | false =>
   simp only [cond_false] at h
   rw [he rfl]
   exact h
 obtain ⟨r, hr, hf⟩ := litI_sound h'
 obtain ⟨h1, h2⟩ := nilS_sound (x := x) (y := y) (n := n) (c := c) ht hr
 exact ⟨_, _, .lit h1, hf, h2⟩
theorem bytes_eq {a b : ByteArray} : (a.toList == b.toList) = decide (a.data.toList = b.data.toList) := by
 rw [ByteArray.toList_eq, ByteArray.toList_eq]
 by_cases e : a.data.toList = b.data.toList
 ·
  rw [e]; simp
 ·
  rw [decide_eq_false e]
  exact beq_eq_false_iff_ne.2 e
theorem strI_sound {op : BinOp} {t : TypeId} {x y : Operand} {a b : ByteArray} {r : Value} (h : strI op a b = some r) : oneC r = true ∧ ∀ (w : World) (k : Kv), binK P op t x y (.string a) (.string b) w k = k true r w := by
 unfold strI at h
 split at h
 ·
  split at h
  ·
   rename_i hle
   cases h
   refine ⟨rfl, fun w k => ?_⟩
   have hn : ¬ ((a.size + b.size : Nat) : Int) > IntKind.i64.max := by
    show ¬ ((a.size + b.size : Nat) : Int) > 9223372036854775807
    omega
   simp only [binK, eqGuard, binOp, Op.stringOp, if_neg hn]
   rfl
  ·
   cases h
 ·
  unfold eqI at h
  cases op <;> simp only [isEq, Option.map_some, Option.map_none, Option.some.injEq, reduceCtorEq] at h
  ·
   subst h
   refine ⟨rfl, fun w k => ?_⟩
   have e : binK P .eql t x y (.string a) (.string b) w k = k true (.bool (a.toList == b.toList)) w := rfl
   rw [e, bytes_eq]
   simp
  ·
   subst h
   refine ⟨rfl, fun w k => ?_⟩
   have e : binK P .neq t x y (.string a) (.string b) w k = k true (.bool !(a.toList == b.toList)) w := rfl
   rw [e, bytes_eq]
   simp
theorem fk1_spec {f : Field} {j : Nat} {b : Bool} (h : fk1 P f j = some b) : f.name ≠ "_" ∧ f.offset = j ∧ P.plainKey f.type = true ∧ (b = true → ∃ q, P.underlying f.type = some (.int q)) ∧ (b = false → P.underlying f.type = some .bool) := by
 unfold fk1 at h
 split at h
 ·
  rename_i hc
  simp only [Bool.and_eq_true, bne_iff_ne, ne_eq, beq_iff_eq] at hc
  split at h
  ·
   rename_i q hq
   cases h
   exact ⟨hc.1, hc.2, by unfold Program.plainKey; rw [hq], fun _ => ⟨q, hq⟩, fun h => by cases h⟩
  ·
   rename_i hq
   cases h
   exact ⟨hc.1, hc.2, by unfold Program.plainKey; rw [hq], fun h => (by cases h), fun _ => hq⟩
  ·
   cases h
 ·
  cases h
theorem eqK_run {d : Nat} : ∀ {ks : List Bool} {fs : List Field} {j : Nat} {l m : List V} {C D : List Value} {G : Bool → Prop}, fkL P fs j = some ks → RepL w Im μ l (C.drop j) → RepL w Im μ m (D.drop j) → eqK ks l m G → ∃ r, G r ∧ ∀ w', (Op.eqFields (d + 1) C.toArray D.toArray fs).run P w' = .ok r w'
 | [], fs, j, l, m, C, D, G, hf, h1, h2, h => by
  cases fs with
  | nil =>
   unfold eqK at h
   split at h
   ·
    exact ⟨true, h, fun w' => by simp [Op.eqFields]⟩
   ·
    rename_i heq; cases heq
   ·
    rename_i heq; cases heq
   ·
    exact h.elim
  | cons f fs =>
   unfold fkL at hf
   split at hf <;> cases hf
 | k :: ks, fs, j, l, m, C, D, G, hf, h1, h2, h => by
  cases fs with
  | nil => cases hf
  | cons f fs =>
   unfold fkL at hf
   split at hf
   ·
    rename_i b r hb hr
    cases hf
    obtain ⟨hn, ho, hpk, hT, hF⟩ := fk1_spec hb
    have nx : ∀ {x : Value} {L C' : List Value}, C'.drop j = x :: L → C'.toArray[j]? = some x ∧ C'.drop (j + 1) = L := fun {x L C'} hc => by
     constructor
     ·
      have : (C'.drop j)[0]? = some x := by rw [hc]; rfl
      rw [List.getElem?_drop] at this
      simpa using this
     ·
      rw [← List.drop_drop, hc]
      rfl
    unfold eqK at h
    split at h
    ·
     rename_i heq; cases heq
    ·
     rename_i _ i a l' q b' m' e
     cases e
     obtain ⟨v, vs, e1, q1, q2⟩ := h1.uncons
     obtain ⟨v', vs', e2, q3, q4⟩ := h2.uncons
     obtain ⟨p1, d1⟩ := nx e1
     obtain ⟨p2, d2⟩ := nx e2
     cases q1; cases q3
     split at h
     ·
      rename_i hij
      subst hij
      obtain ⟨r, hG, hrun⟩ := eqK_run (d := d) hr (by rw [d1]; exact q2) (by rw [d2]; exact q4) h
      obtain ⟨q, hu⟩ := hT rfl
      refine ⟨_, hG, fun w' => ?_⟩
      have he := run_equalIn_int (P := P) w' d f.type i q a b' hu
      simp only [Op.eqFields, hn, ne_eq, not_false_eq_true, if_true, Sem.run_bind, ho, run_part_plain w' hpk p1, run_part_plain w' hpk p2, he, Result.andThen_ok]
      by_cases hab : a = b'
      ·
       subst hab; simp [hrun]
      ·
       have : (a == b') = false := beq_eq_false_iff_ne.2 hab
       simp [this, hab]
     ·
      exact h.elim
    ·
     rename_i _ a l' b' m' e
     cases e
     obtain ⟨v, vs, e1, q1, q2⟩ := h1.uncons
     obtain ⟨v', vs', e2, q3, q4⟩ := h2.uncons
     obtain ⟨p1, d1⟩ := nx e1
     obtain ⟨p2, d2⟩ := nx e2
     cases q1; cases q3
     obtain ⟨r, hG, hrun⟩ := eqK_run (d := d) hr (by rw [d1]; exact q2) (by rw [d2]; exact q4) h
     refine ⟨_, hG, fun w' => ?_⟩
     have he := run_equalIn_bool' (P := P) w' d f.type a b' (hF rfl)
     simp only [Op.eqFields, hn, ne_eq, not_false_eq_true, if_true, Sem.run_bind, ho, run_part_plain w' hpk p1, run_part_plain w' hpk p2, he, Result.andThen_ok]
     by_cases hab : a = b'
     ·
      subst hab; simp [hrun]
     ·
      have : (a == b') = false := beq_eq_false_iff_ne.2 hab
      simp [this]
    ·
     exact h.elim
   ·
    cases hf
theorem eqK_append : ∀ {ks r : List Bool} {l m : List V} {G : Bool → Prop}, eqK (ks ++ r) l m G → ∃ l1 l2 m1 m2, l = l1 ++ l2 ∧ m = m1 ++ m2 ∧ l1.length = ks.length ∧ m1.length = ks.length ∧ eqK ks l1 m1 (fun x => eqK r l2 m2 fun y => G (x && y))
 | [], r, l, m, G, h => ⟨[], l, [], m, rfl, rfl, rfl, rfl, by
   show eqK r l m fun y => G (true && y)
   simpa using h⟩
 | k :: ks, r, l, m, G, h => by
  rw [List.cons_append] at h
  unfold eqK at h
  split at h
  ·
   rename_i heq; cases heq
  ·
   rename_i _ i a l' q b' m' e
   cases e
   split at h
   ·
    rename_i hij
    obtain ⟨l1, l2, m1, m2, e1, e2, e3, e4, e5⟩ := eqK_append h
    subst e1 e2
    refine ⟨_ :: l1, l2, _ :: m1, m2, rfl, rfl, by rw [List.length_cons, e3, List.length_cons], by rw [List.length_cons, e4, List.length_cons], ?_⟩
    unfold eqK
    rw [if_pos hij]
    simpa only [Bool.and_assoc] using e5
   ·
    exact h.elim
  ·
   rename_i _ a l' b' m' e
   cases e
   obtain ⟨l1, l2, m1, m2, e1, e2, e3, e4, e5⟩ := eqK_append h
   subst e1 e2
   refine ⟨_ :: l1, l2, _ :: m1, m2, rfl, rfl, by rw [List.length_cons, e3, List.length_cons], by rw [List.length_cons, e4, List.length_cons], ?_⟩
   unfold eqK
   simpa only [Bool.and_assoc] using e5
  ·
   exact h.elim
theorem eqFields_cons {d : Nat} {C D : Array Value} {f : Field} {fs : List Field} {r1 r2 : Bool} (h1 : ∀ w', (Op.eqFields d C D [f]).run P w' = .ok r1 w') (h2 : ∀ w', (Op.eqFields d C D fs).run P w' = .ok r2 w') (w' : World) : (Op.eqFields d C D (f :: fs)).run P w' = .ok (r1 && r2) w' := by
 have h := h1 w'
 unfold Op.eqFields at h ⊢
 split at h
 ·
  rename_i hn
  rw [if_pos hn]
  simp only [Sem.run_bind] at h ⊢
  generalize (part f.type C f.offset).run P w' = p1 at *
  cases p1 with
  | halt x w1 => simp [Result.andThen] at h
  | ok a w1 =>
   simp only [Result.andThen_ok] at h ⊢
   generalize (part f.type D f.offset).run P w1 = p2 at *
   cases p2 with
   | halt x w1 => simp [Result.andThen] at h
   | ok b w2 =>
    simp only [Result.andThen_ok] at h ⊢
    generalize (Op.equalIn d f.type a b).run P w2 = p3 at *
    cases p3 with
    | halt x w1 => simp [Result.andThen] at h
    | ok r w3 =>
     simp only [Result.andThen_ok] at h ⊢
     cases r with
     | false =>
      simp only [Bool.not_false, if_true, Sem.run_pure, Result.ok.injEq] at h ⊢
      obtain ⟨e1, e2⟩ := h
      subst e1 e2
      simp
     | true =>
      simp only [Bool.not_true, Bool.false_eq_true, if_false, Op.eqFields, Sem.run_pure, Result.ok.injEq] at h ⊢
      obtain ⟨e1, e2⟩ := h
      subst e1 e2
      rw [Bool.true_and]
      exact h2 _
 ·
  rename_i hn
  rw [if_neg hn]
  simp only [Op.eqFields, Sem.run_pure, Result.ok.injEq] at h
  rw [← h.1, Bool.true_and]
  exact h2 _
theorem RepL_split {l1 l2 : List V} {C : List Value} (h : RepL w Im μ (l1 ++ l2) C) : RepL w Im μ l1 (C.take l1.length) ∧ RepL w Im μ l2 (C.drop l1.length) := by
 obtain ⟨h1, h2⟩ := h
 rw [List.length_append] at h1
 refine ⟨⟨by rw [List.length_take]; omega, fun i u c hu hc => ?_⟩, ⟨by rw [List.length_drop]; omega, fun i u c hu hc => ?_⟩⟩
 ·
  have hi : i < l1.length := by
   rcases Nat.lt_or_ge i l1.length with h | h
   ·
    exact h
   ·
    rw [List.getElem?_eq_none h] at hu; cases hu
  refine h2 i u c (by rw [List.getElem?_append_left hi]; exact hu) ?_
  rw [List.getElem?_take_of_lt hi] at hc
  exact hc
 ·
  refine h2 (l1.length + i) u c (by rw [List.getElem?_append_right (by omega)]; simpa using hu) ?_
  rw [List.getElem?_drop] at hc
  exact hc
theorem eqK_runM {d : Nat} : ∀ {fs : List Field} {ks : List Bool} {j : Nat} {l m : List V} {C D : List Value} {G : Bool → Prop}, fkM P fs j = some ks → RepL w Im μ l (C.drop j) → RepL w Im μ m (D.drop j) → eqK ks l m G → ∃ r, G r ∧ ∀ w', (Op.eqFields (d + 2) C.toArray D.toArray fs).run P w' = .ok r w'
 | [], ks, j, l, m, C, D, G, hf, h1, h2, h => by
  cases hf
  unfold eqK at h
  split at h
  ·
   exact ⟨true, h, fun w' => by simp [Op.eqFields]⟩
  ·
   rename_i heq; cases heq
  ·
   rename_i heq; cases heq
  ·
   exact h.elim
 | f :: fs, ks, j, l, m, C, D, G, hf, h1, h2, h => by
  unfold fkM at hf
  split at hf
  ·
   rename_i b hb
   split at hf
   ·
    rename_i r hr
    cases hf
    obtain ⟨l1, l2, m1, m2, rfl, rfl, e3, e4, e5⟩ := eqK_append h
    obtain ⟨a1, a2⟩ := RepL_split h1
    obtain ⟨b1, b2⟩ := RepL_split h2
    rw [List.drop_drop, e3] at a2
    rw [List.drop_drop, e4] at b2
    have key : ∃ x, (eqK r l2 m2 fun y => G (x && y)) ∧ ∀ w', (Op.eqFields (d + 2) C.toArray D.toArray [f]).run P w' = .ok x w' := by
     unfold fk2 at hb
     split at hb
     ·
      rename_i b0 hb0
      cases hb
      obtain ⟨hn, ho, hpk, hT, hF⟩ := fk1_spec hb0
      have nx : ∀ {x : Value} {L C' : List Value}, C'.drop j = x :: L → C'.toArray[j]? = some x := fun {x L C'} hc => by
       have : (C'.drop j)[0]? = some x := by rw [hc]; rfl
       rw [List.getElem?_drop] at this
       simpa using this
      unfold eqK at e5
      split at e5
      ·
       rename_i heq; cases heq
      ·
       rename_i _ i a l' q b' m' e
       cases e
       obtain ⟨v, vs, E1, q1, q2⟩ := h1.uncons
       obtain ⟨v', vs', E2, q3, q4⟩ := h2.uncons
       have p1 := nx E1
       have p2 := nx E2
       cases q1; cases q3
       obtain rfl : l' = [] := List.length_eq_zero_iff.1 (by simpa using e3)
       obtain rfl : m' = [] := List.length_eq_zero_iff.1 (by simpa using e4)
       split at e5
       ·
        rename_i hij
        subst hij
        unfold eqK at e5
        obtain ⟨q, hu⟩ := hT rfl
        refine ⟨_, e5, fun w' => ?_⟩
        have he := run_equalIn_int (P := P) w' (d + 1) f.type i q a b' hu
        simp only [Op.eqFields, hn, ne_eq, not_false_eq_true, if_true, Sem.run_bind, ho, run_part_plain w' hpk p1, run_part_plain w' hpk p2, he, Result.andThen_ok]
        by_cases hab : a = b'
        ·
         subst hab; simp
        ·
         have : (a == b') = false := beq_eq_false_iff_ne.2 hab
         simp [this, hab]
       ·
        exact e5.elim
      ·
       rename_i _ a l' b' m' e
       cases e
       obtain ⟨v, vs, E1, q1, q2⟩ := h1.uncons
       obtain ⟨v', vs', E2, q3, q4⟩ := h2.uncons
       have p1 := nx E1
       have p2 := nx E2
       cases q1; cases q3
       obtain rfl : l' = [] := List.length_eq_zero_iff.1 (by simpa using e3)
       obtain rfl : m' = [] := List.length_eq_zero_iff.1 (by simpa using e4)
       unfold eqK at e5
       refine ⟨_, e5, fun w' => ?_⟩
       have he := run_equalIn_bool' (P := P) w' (d + 1) f.type a b' (hF rfl)
       simp only [Op.eqFields, hn, ne_eq, not_false_eq_true, if_true, Sem.run_bind, ho, run_part_plain w' hpk p1, run_part_plain w' hpk p2, he, Result.andThen_ok]
       by_cases hab : a = b'
       ·
        subst hab; simp
       ·
        have : (a == b') = false := beq_eq_false_iff_ne.2 hab
        simp [this]
      ·
       exact e5.elim
     ·
      rename_i hb0
      split at hb
      ·
       rename_i hc
       simp only [Bool.and_eq_true, bne_iff_ne, ne_eq, beq_iff_eq] at hc
       split at hb
       ·
        rename_i gs hu
        split at hb
        ·
         rename_i hp
         split at hb
         ·
          rename_i b1' hfk
          split at hb
          ·
           rename_i hce
           cases hb
           have hfo : P.fieldsOf f.type = gs := by unfold Program.fieldsOf; rw [hu]
           obtain ⟨i, hi⟩ := info_of_underlying hu
           have pt : ∀ (X : List Value) w', (part f.type X.toArray f.offset).run P w' = .ok (.agg ((X.drop j).take b.length).toArray) w' := by
            intro X w'
            have hl : X.toArray.extract f.offset (f.offset + P.cellsOf f.type) = ((X.drop j).take b.length).toArray := by
             apply Array.ext'
             rw [Array.toList_extract, hc.2, hce]
             simp [List.extract]
            rw [← hl]
            simp [part, isAgg, run_underlying hu, run_sizeOf w' hi]
           rw [e3] at a1
           rw [e4] at b1
           obtain ⟨x, hG, hrun⟩ := eqK_run (d := d) (C := (C.drop j).take b.length) (D := (D.drop j).take b.length) hfk a1 b1 e5
           refine ⟨x, hG, fun w' => ?_⟩
           unfold Op.eqFields
           rw [if_pos hc.1]
           simp only [Sem.run_bind, pt, Result.andThen_ok]
           rw [run_equalIn_struct w' (d + 1) f.type _ _ (by rw [hfo]; exact hu) hp, hfo, hrun]
           cases x <;> simp [Result.andThen, Op.eqFields]
          ·
           cases hb
         ·
          cases hb
        ·
         cases hb
       ·
        cases hb
      ·
       cases hb
    obtain ⟨x, hx, hr1⟩ := key
    obtain ⟨y, hy, hr2⟩ := eqK_runM (d := d) hr a2 b2 hx
    exact ⟨_, hy, eqFields_cons hr1 hr2⟩
   ·
    cases hf
  ·
   cases hf
theorem agg_sound {op : BinOp} {t : TypeId} {x y : Operand} {ks : List Bool} {l m : List V} {a b : Value} {F : FV} (hk : fkOf P t = some ks) (hu : RepV w Im μ (.agg l) a) (hv : RepV w Im μ (.agg m) b) (h : eqK ks l m fun r => litI (eqI op r) F) :
  Comes w Im μ F fun w' k => binK P op t x y a b w' k := by
 unfold fkOf at hk
 split at hk
 ·
  rename_i fs hfs
  split at hk
  ·
   rename_i hc
   cases hu with
   | @agg _ C hn ho hr =>
    cases hv with
    | @agg _ D hn' ho' hr' =>
     have hfo : P.fieldsOf t = fs := by unfold Program.fieldsOf; rw [hfs]
     obtain ⟨r, hG, hrun⟩ := eqK_runM (d := 9997) (C := C) (D := D) hk ⟨by simpa using hn, hr⟩ ⟨by simpa using hn', hr'⟩ h
     have heq : ∀ w', (Op.equalIn 10000 t (.agg C.toArray) (.agg D.toArray)).run P w' = .ok r w' := fun w' => by
      rw [run_equalIn_struct w' 9999 t _ _ (by rw [hfo]; exact hfs) hc.2, hfo]
      exact hrun w'
     have hg : ∀ op w', (eqGuard op t x y (.agg C.toArray) (.agg D.toArray)).run P w' = .ok () w' := fun op w' => run_eqGuard_agg w' op t x y _ _ hc.1
     unfold eqI at hG
     cases op <;> simp only [isEq, Option.map_some, Option.map_none, litI] at hG
     ·
      refine ⟨_, _, .lit (v := .bool (true == r)) rfl, hG, fun w' k => ?_⟩
      dsimp only
      unfold binK runK
      rw [Sem.run_bind, hg]
      simp only [Result.andThen_ok]
      rw [run_eql_struct, heq]
      simp [Result.andThen, resK]
     ·
      refine ⟨_, _, .lit (v := .bool (false == r)) rfl, hG, fun w' k => ?_⟩
      dsimp only
      unfold binK runK
      rw [Sem.run_bind, hg]
      simp only [Result.andThen_ok]
      rw [run_neq_struct, heq]
      simp [Result.andThen, resK]
  ·
   cases hk
 ·
  cases hk
theorem binV_sound {op : BinOp} {t : TypeId} {x y : Operand} {u v : V} {a b : Value} {F : FV} (hu : RepV w Im μ u a) (hv : RepV w Im μ v b) (h : binV P op t u v F) : Comes w Im μ F fun w' k => binK P op t x y a b w' k := by
 unfold binV at h
 split at h
 ·
  cases hu; cases hv
  split at h
  ·
   obtain ⟨r, hr, hf⟩ := litI_sound h
   obtain ⟨h1, h2⟩ := shI_sound (P := P) (t := t) (x := x) (y := y) hr
   exact ⟨_, _, .lit h1, hf, h2⟩
  ·
   split at h
   ·
    rename_i e
    subst e
    obtain ⟨r, hr, hf⟩ := litI_sound h
    obtain ⟨h1, h2⟩ := intI_sound (P := P) (t := t) (x := x) (y := y) hr
    exact ⟨_, _, .lit h1, hf, h2⟩
   ·
    exact h.elim
 ·
  cases hu; cases hv
  split at h
  ·
   rename_i ht
   obtain ⟨r, hr, hf⟩ := litI_sound h
   obtain ⟨h1, h2⟩ := boolI_sound (x := x) (y := y) (isBool_spec ht) hr
   exact ⟨_, _, .lit h1, hf, h2⟩
  ·
   exact h.elim
 ·
  cases hu; cases hv
  split at h
  ·
   rename_i ht
   obtain ⟨e, ht⟩ := isPtr_spec ht
   obtain ⟨r, hr, hf⟩ := litI_sound h
   obtain ⟨h1, h2⟩ := nilI_sound (x := x) (y := y) ht hr
   exact ⟨_, _, .lit h1, hf, h2⟩
  ·
   exact h.elim
 ·
  cases hu; cases hv
  split at h
  ·
   rename_i ht
   obtain ⟨e, ht⟩ := isPtr_spec ht
   obtain ⟨r, hr, hf⟩ := litI_sound h
   obtain ⟨h1, h2⟩ := nilI_sound (a := some _) (x := x) (y := y) ht hr
   exact ⟨_, _, .lit h1, hf, h2⟩
  ·
   exact h.elim
 ·
  cases hu; cases hv
  split at h
  ·
   rename_i ht
   obtain ⟨e, ht⟩ := isPtr_spec ht
   obtain ⟨r, hr, hf⟩ := litI_sound h
   obtain ⟨h1, h2⟩ := nilI_sound (a := some _) (x := x) (y := y) ht hr
   exact ⟨_, _, .lit h1, hf, h2⟩
  ·
   exact h.elim
 ·
  cases hu; cases hv
  split at h
  ·
   rename_i ht
   obtain ⟨e, ht⟩ := isSlc_spec ht
   obtain ⟨r, hr, hf⟩ := litI_sound h
   obtain ⟨h1, h2⟩ := nilS_sound (a := none) (n := 0) (c := 0) (x := x) (y := y) ht hr
   exact ⟨_, _, .lit h1, hf, h2⟩
  ·
   exact h.elim
 ·
  rename_i z l
  split at h
  ·
   rename_i ht
   obtain ⟨ht, hz0⟩ := ht
   obtain ⟨e, ht⟩ := isSlc_spec ht
   cases hv
   cases hu with
   | row hp => cases hp with
    | row hl hc hz hR hI hn ho hr =>
     refine nilB_sound ht (fun he => ?_) h
     have hne : 0 < l.length := by
      cases l with
      | nil => cases he
      | cons _ _ => simp
     rw [hR.1 (by rw [hn, hl]; exact Nat.mul_pos hne hz0)]
     rfl
  ·
   exact h.elim
 ·
  split at h
  ·
   rename_i ht
   obtain ⟨e, ht⟩ := isSlc_spec ht
   cases hv
   cases hu with
   | sl hs =>
    refine nilB_sound ht (fun he => ?_) h
    have hne := of_decide_eq_false he
    obtain ⟨_, hs⟩ := hs
    generalize μ[(_ : Nat)]? = loc at hs
    cases loc with
    | none => exact hs.elim
    | some loc =>
     cases loc with
     | none => exact absurd hs.2.1 hne
     | some bn => rw [hs.1 (.inl (by omega))]; rfl
  ·
   exact h.elim
 ·
  cases hu; cases hv
  obtain ⟨r, hr, hf⟩ := litI_sound h
  obtain ⟨h1, h2⟩ := strI_sound (P := P) (t := t) (x := x) (y := y) hr
  exact ⟨_, _, .lit h1, hf, h2⟩
 ·
  split at h
  ·
   rename_i ks hk
   exact agg_sound hk hu hv h
  ·
   exact h.elim
 ·
  exact h.elim
theorem binK_ifc {op : BinOp} {t : TypeId} {x : Operand} {r : Value} (ht : isIfc P t = true) (h : nilI op true = some r) : oneC r = true ∧ ∀ (w : World) (k : Kv), binK P op t x (.const .nilIface) .nilIface .nilIface w k = k true r w := by
 obtain ⟨ms, ht⟩ : ∃ ms, P.underlying t = some (.interface ms) := by
  unfold isIfc at ht
  split at ht
  ·
   rename_i ms hm; exact ⟨ms, hm⟩
  ·
   cases ht
 have h0 : ∀ w, (Op.equal t .nilIface .nilIface).run P w = .ok true w := fun w => by
  show (Op.equalIn 10000 t .nilIface .nilIface).run P w = _
  unfold Op.equalIn
  rw [Sem.run_bind, run_underlying ht, Result.andThen_ok]
  rfl
 cases op <;> simp only [nilI, isEq, Option.map_some, Option.map_none, Option.some.injEq, reduceCtorEq] at h
 ·
  subst h
  refine ⟨rfl, fun w k => ?_⟩
  have h2 : (binOp .eql t .nilIface .nilIface).run P w = .ok (.bool true) w := by
   show (do pure (.bool (← Op.equal t .nilIface .nilIface)) : Sem Value).run P w = _
   rw [Sem.run_bind, h0]
   rfl
  unfold binK runK
  rw [show eqGuard .eql t x (.const .nilIface) .nilIface .nilIface = pure () by cases x <;> rfl, pure_bind, h2]
  rfl
 ·
  subst h
  refine ⟨rfl, fun w k => ?_⟩
  have h2 : (binOp .neq t .nilIface .nilIface).run P w = .ok (.bool false) w := by
   show (do pure (.bool !(← Op.equal t .nilIface .nilIface)) : Sem Value).run P w = _
   rw [Sem.run_bind, h0]
   rfl
  unfold binK runK
  rw [show eqGuard .neq t x (.const .nilIface) .nilIface .nilIface = pure () by cases x <;> rfl, pure_bind, h2]
  rfl
theorem binK_ifn {op : BinOp} {t s : TypeId} {a : Value} {x : Operand} {r : Value} (ht : isIfc P t = true) (h : nilI op false = some r) : oneC r = true ∧ ∀ (w : World) (k : Kv), binK P op t x (.const .nilIface) (.iface s a) .nilIface w k = k true r w := by
 obtain ⟨ms, ht⟩ : ∃ ms, P.underlying t = some (.interface ms) := by
  unfold isIfc at ht
  split at ht
  ·
   rename_i ms hm; exact ⟨ms, hm⟩
  ·
   cases ht
 have h0 : ∀ w, (Op.equal t (.iface s a) .nilIface).run P w = .ok false w := fun w => by
  show (Op.equalIn 10000 t (.iface s a) .nilIface).run P w = _
  unfold Op.equalIn
  rw [Sem.run_bind, run_underlying ht, Result.andThen_ok]
  rfl
 cases op <;> simp only [nilI, isEq, Option.map_some, Option.map_none, Option.some.injEq, reduceCtorEq] at h
 ·
  subst h
  refine ⟨rfl, fun w k => ?_⟩
  have h2 : (binOp .eql t (.iface s a) .nilIface).run P w = .ok (.bool false) w := by
   show (do pure (.bool (← Op.equal t (.iface s a) .nilIface)) : Sem Value).run P w = _
   rw [Sem.run_bind, h0]
   rfl
  unfold binK runK
  rw [show eqGuard .eql t x (.const .nilIface) (.iface s a) .nilIface = pure () by cases x <;> rfl, pure_bind, h2]
  rfl
 ·
  subst h
  refine ⟨rfl, fun w k => ?_⟩
  have h2 : (binOp .neq t (.iface s a) .nilIface).run P w = .ok (.bool true) w := by
   show (do pure (.bool !(← Op.equal t (.iface s a) .nilIface)) : Sem Value).run P w = _
   rw [Sem.run_bind, h0]
   rfl
  unfold binK runK
  rw [show eqGuard .neq t x (.const .nilIface) (.iface s a) .nilIface = pure () by cases x <;> rfl, pure_bind, h2]
  rfl
theorem binW_sound {op : BinOp} {t : TypeId} {x y : Operand} {u v : V} {a b : Value} {F : FV} (hu : RepV w Im μ u a) (hv : RepV w Im μ v b) (h : binW P op t y u v F) : Comes w Im μ F fun w' k => binK P op t x y a b w' k := by
 unfold binW at h
 split at h
 ·
  split at h
  ·
   split at h
   ·
    rename_i hc
    obtain ⟨hc1, hc2⟩ := hc
    have hy : y = .const .nilIface := by
     unfold isNilC at hc2
     split at hc2
     ·
      rfl
     ·
      cases hc2
    subst hy
    cases hu; cases hv
    obtain ⟨r, hr, hf⟩ := litI_sound h
    obtain ⟨h1, h2⟩ := binK_ifc (x := x) hc1 hr
    exact ⟨_, _, .lit h1, hf, h2⟩
   ·
    exact h.elim
  ·
   exact h.elim
 ·
  split at h
  ·
   split at h
   ·
    rename_i hc
    obtain ⟨hc1, hc2⟩ := hc
    have hy : y = .const .nilIface := by
     unfold isNilC at hc2
     split at hc2
     ·
      rfl
     ·
      cases hc2
    subst hy
    cases hu; cases hv
    obtain ⟨r, hr, hf⟩ := litI_sound h
    obtain ⟨h1, h2⟩ := binK_ifn (x := x) hc1 hr
    exact ⟨_, _, .lit h1, hf, h2⟩
   ·
    exact h.elim
  ·
   exact h.elim
 ·
  exact binV_sound hu hv h
theorem mkiV_sound {t : TypeId} {u : V} {a : Value} {F : FV} (hu : RepV w Im μ u a) (h : mkiV P t u F) : Comes w Im μ F fun w' k => runK P (Instr.makeInterface t a) w' (k true) := by
 unfold mkiV at h
 split at h
 ·
  split at h
  ·
   rename_i ht
   cases hu
   refine ⟨_, _, .lit rfl, h, fun w' k => ?_⟩
   dsimp only
   unfold runK Instr.makeInterface
   rw [Sem.run_bind, run_underlying ht, Result.andThen_ok]
   rfl
  ·
   exact h.elim
 ·
  exact h.elim
theorem unoV_sound {op : UnOp} {u : V} {a : Value} {F : FV} (hu : RepV w Im μ u a) (h : unoV op u F) : Comes w Im μ F fun w' k => unoK P op a w' k := by
 unfold unoV at h
 split at h
 ·
  cases hu; exact ⟨_, _, .lit rfl, h, fun _ _ => rfl⟩
 ·
  cases hu; exact ⟨_, _, .lit rfl, h, fun _ _ => rfl⟩
 ·
  cases hu; exact ⟨_, _, .lit rfl, h, fun _ _ => rfl⟩
 ·
  exact h.elim
theorem knOf_spec {t : TypeId} {k : IntKind} (h : knOf P t = some k) : P.underlying t = some (.int k) := by
 unfold knOf at h
 split at h
 ·
  cases h; assumption
 ·
  cases h
theorem cvtV_sound {s t : TypeId} {u : V} {a : Value} {F : FV} (hu : RepV w Im μ u a) (h : cvtV P s t u F) : Comes w Im μ F fun w' k => cvtK P s t a w' k := by
 unfold cvtV at h
 split at h
 ·
  rename_i hs ht
  cases hu
  exact ⟨_, _, .lit rfl, h, fun _ _ => cvtK_of (by rw [knOf_spec hs]; rfl) (knOf_spec ht)⟩
 ·
  exact h.elim
theorem ncV_sound {u : V} {a : Value} {F : FV} (hu : RepV w Im μ u a) (h : ncV u F) : Comes w Im μ F fun w' k => ncK a w' k := by
 unfold ncV at h
 split at h
 ·
  cases hu with | ref h1 => exact ⟨_, _, .ref h1, h, fun _ _ => rfl⟩
 ·
  cases hu with | rref h1 h2 h3 h4 h5 h6 => exact ⟨_, _, .rref h1 h2 h3 h4 h5 h6, h, fun _ _ => rfl⟩
 ·
  cases hu with | clo h1 h2 => exact ⟨_, _, .clo h1 h2, h, fun _ _ => rfl⟩
 ·
  exact h.elim
theorem fdOf_spec {t : TypeId} {j o n : Nat} {ag : Bool} (h : fdOf P t j = some (o, ag, n)) : ∃ fs f d z, P.underlying t = some (.struct fs) ∧ fs[j]? = some f ∧ P.underlying f.type = some d ∧ szOf P f.type = some (z + 1) ∧ f.offset = o ∧ aggD d = ag ∧ n = z + 1 := by
 unfold fdOf at h
 split at h
 ·
  rename_i fs h1
  split at h
  ·
   rename_i f h2
   split at h
   ·
    rename_i d z h3 h4
    cases h
    exact ⟨fs, f, d, z, h1, h2, h3, h4, rfl, rfl, rfl⟩
   ·
    cases h
  ·
   cases h
 ·
  cases h
theorem fadV_sound {t : TypeId} {u : V} {j : Nat} {a : Value} {F : FV} (hu : RepV w Im μ u a) (h : fadV P t u j F) : Comes w Im μ F fun w' k => fadK P t a j w' k := by
 unfold fadV at h
 split at h
 ·
  exact h.elim
 ·
  rename_i o ag n hf
  obtain ⟨fs, f, d, z, h1, h2, h3, h4, h5, _, _⟩ := fdOf_spec hf
  split at h
  ·
   cases hu with
   | ref hm =>
    refine ⟨_, _, .ref hm, h, fun _ _ => ?_⟩
    dsimp only
    rw [fadK_of h1 h2 h4 h5, Nat.add_assoc]
  ·
   cases hu with
   | rref q1 q2 q3 q4 q5 q6 =>
    refine ⟨_, _, .rref q1 q2 q3 q4 q5 q6, h, fun _ _ => ?_⟩
    dsimp only
    rw [fadK_of h1 h2 h4 h5, Nat.add_assoc]
  ·
   exact h.elim
theorem atK_sound {α : Type} {l : List α} {i : Nat} {F : α → Prop} (h : atK l i F) : ∃ x, l[i]? = some x ∧ F x := by
 unfold atK at h
 cases hx : l[i]? with
 | none => rw [hx] at h; exact h.elim
 | some x => rw [hx] at h; exact ⟨x, rfl, h⟩
theorem tkK_sound {α : Type} {l : List α} {a n : Nat} {F : List α → Prop} (h : tkK l a n F) : a + n ≤ l.length ∧ F ((l.drop a).take n) := by
 unfold tkK at h
 split at h
 ·
  exact ⟨‹_›, h⟩
 ·
  exact h.elim
theorem wrK_sound {α : Type} {l c : List α} {a : Nat} {F : List α → Prop} (h : wrK l a c F) : a + c.length ≤ l.length ∧ F (l.take a ++ c ++ l.drop (a + c.length)) := by
 unfold wrK at h
 split at h
 ·
  exact ⟨‹_›, h⟩
 ·
  exact h.elim
theorem lenK_sound {α : Type} {c : List α} {n : Nat} {p : Prop} (h : lenK c n p) : c.length = n ∧ p := by
 unfold lenK at h
 split at h
 ·
  exact ⟨‹_›, h⟩
 ·
  exact h.elim
theorem fldV_sound {t : TypeId} {u : V} {j : Nat} {a : Value} {F : FV} (hu : RepV w Im μ u a) (h : fldV P t u j F) : Comes w Im μ F fun w' k => fldK P t a j w' k := by
 unfold fldV at h
 split at h
 ·
  exact h.elim
 ·
  rename_i o ag n hf
  obtain ⟨fs, f, d, z, h1, h2, h3, h4, h5, h6, h7⟩ := fdOf_spec hf
  split at h
  ·
   cases hu with
   | @agg l C hn ho hr =>
    have hL : RepL w Im μ _ C := ⟨hn, hr⟩
    cases ag with
    | true =>
     simp only [cond_true] at h
     obtain ⟨hle, hF⟩ := tkK_sound h
     have hp := hL.part o n
     refine ⟨_, _, .agg hp.1 (fun c hc => ho c (List.mem_of_mem_drop (List.mem_of_mem_take hc))) hp.2, hF, fun _ _ => ?_⟩
     dsimp only
     rw [fldK_agg h1 h2 h3 h6 h5 h4, h7]
    | false =>
     simp only [cond_false] at h
     obtain ⟨x, hx, hF⟩ := atK_sound h
     obtain ⟨c, hc, hxc⟩ := hL.get hx
     refine ⟨_, _, hxc, hF, fun w' k => ?_⟩
     dsimp only
     rw [fldK_one h1 h2 h3 h6 h5 (List.getElem?_eq_some_iff.1 hc).1, lstK_of hc]
  ·
   exact h.elim
theorem inK_sound {u : V} {n : Nat} {a : Value} {G : Nat → Prop} (hu : RepV w Im μ u a) (h : inK u n G) : ∃ k q, a = .int k q ∧ 0 ≤ q ∧ q < n ∧ q.toNat < n ∧ G q.toNat := by
 unfold inK at h
 split at h
 ·
  cases hu
  split at h
  ·
   rename_i hq
   exact ⟨_, _, rfl, hq.1, hq.2, by omega, h⟩
  ·
   exact h.elim
 ·
  exact h.elim
theorem elOf_spec {t e : TypeId} {z : Nat} (h : elOf P t = some (e, z)) : P.underlying t = some (.slice e) ∧ szOf P e = some z := by
 unfold elOf at h
 split at h
 ·
  rename_i e' he
  cases hz : szOf P e' with
  | none => rw [hz] at h; cases h
  | some z' => rw [hz] at h; cases h; exact ⟨he, hz⟩
 ·
  cases h
theorem arOf_spec {t e : TypeId} {n z : Nat} (h : arOf P t = some (n, e, z)) : P.underlying t = some (.array n e) ∧ szOf P e = some z := by
 unfold arOf at h
 split at h
 ·
  rename_i n' e' he
  cases hz : szOf P e' with
  | none => rw [hz] at h; cases h
  | some z' => rw [hz] at h; cases h; exact ⟨he, hz⟩
 ·
  cases h
theorem rowP_idx {z : Nat} {l : List (List PV)} {a : Value} (h : RepP w Im (.row z l) a) {q : Int} {k' : IntKind} {t e : TypeId} (hq0 : 0 ≤ q) (hq : q < l.length) (hz : 0 < z) (h1 : P.underlying t = some (.slice e)) (h2 : szOf P e = some z) :
  ∃ v, RepV w Im μ (.rref z l q.toNat 0) v ∧ ∀ w' (k : Kv), idxK P t a (.int k' q) w' k = k true v w' := by
 cases h with
 | @row z len cap l a C hl hc hze hR hI hn ho hr =>
  refine ⟨_, .rref hze hR hI (by rw [hn, hl]) ho hr, fun w' k => ?_⟩
  have hpos : 0 < C.length := by rw [hn]; exact Nat.mul_pos (by omega) hz
  have ha := hR.1 hpos
  have e : idxK P t (.slice a len cap) (.int k' q) w' k = idxK P t (.slice (some ⟨ab a, ao a, none⟩) len cap) (.int k' q) w' k := by rw [← ha]
  rw [e, idxK_slice h1 h2 ⟨hq0, by omega⟩, Nat.add_zero]
theorem idxV_sound {t : TypeId} {u v : V} {a b : Value} {F : FV} (hu : RepV w Im μ u a) (hv : RepV w Im μ v b) (h : idxV P t u v F) : Comes w Im μ F fun w' k => idxK P t a b w' k := by
 unfold idxV at h
 split at h
 ·
  split at h
  ·
   rename_i hel
   split at h
   ·
    rename_i hz
    subst hz
    obtain ⟨k, q, rfl, hq0, hq, hq', hG⟩ := inK_sound hv h
    obtain ⟨h1, h2⟩ := elOf_spec hel
    cases hu with
    | sl hs =>
     obtain ⟨hlc, hs⟩ := hs
     generalize hm : μ[(_ : Nat)]? = loc at hs
     cases loc with
     | none => exact hs.elim
     | some loc =>
      cases loc with
      | none => obtain ⟨_, h0, _⟩ := hs; omega
      | some bn =>
       obtain ⟨b, n⟩ := bn
       obtain ⟨ha, hn⟩ := hs
       have ha' := ha (.inl (by omega))
       subst ha'
       refine ⟨_, _, .ref hm, hG, fun w' k' => ?_⟩
       dsimp only
       rw [idxK_slice h1 h2 ⟨hq0, hq⟩, Nat.add_zero, Nat.add_mul]
   ·
    exact h.elim
  ·
   exact h.elim
 ·
  split at h
  ·
   rename_i hel
   split at h
   ·
    rename_i hz
    obtain ⟨hz, hz0⟩ := hz
    subst hz
    obtain ⟨k, q, rfl, hq0, hq, hq', hG⟩ := inK_sound hv h
    obtain ⟨h1, h2⟩ := elOf_spec hel
    cases hu with
    | row hp =>
     obtain ⟨x, hx, hk⟩ := rowP_idx (μ := μ) (k' := k) hp hq0 hq hz0 h1 h2
     exact ⟨_, _, hx, hG, hk⟩
   ·
    exact h.elim
  ·
   exact h.elim
 ·
  split at h
  ·
   rename_i hel
   split at h
   ·
    rename_i hz
    obtain ⟨hz, hz0⟩ := hz
    subst hz
    obtain ⟨k, q, rfl, hq0, hq, hq', hG⟩ := inK_sound hv h
    obtain ⟨h1, h2⟩ := elOf_spec hel
    cases hu with
    | xrow hp =>
     obtain ⟨x, hx, hk⟩ := rowP_idx (μ := μ) (k' := k) hp hq0 hq hz0 h1 h2
     exact ⟨_, _, hx, hG, hk⟩
   ·
    exact h.elim
  ·
   exact h.elim
 ·
  split at h
  ·
   rename_i har
   obtain ⟨k, q, rfl, hq0, hq, hq', hG⟩ := inK_sound hv h
   obtain ⟨h1, h2⟩ := arOf_spec har
   cases hu with
   | ref hm =>
    refine ⟨_, _, .ref hm, hG, fun w' k' => ?_⟩
    dsimp only
    rw [idxK_array h1 h2 ⟨hq0, hq⟩]
    simp [Nat.add_comm]
  ·
   exact h.elim
 ·
  split at h
  ·
   rename_i har
   obtain ⟨k, q, rfl, hq0, hq, hq', hG⟩ := inK_sound hv h
   obtain ⟨h1, h2⟩ := arOf_spec har
   cases hu
   refine ⟨_, _, .lit rfl, hG, fun w' k' => ?_⟩
   dsimp only
   rw [idxK_array h1 h2 ⟨hq0, hq⟩]
   simp
  ·
   exact h.elim
 ·
  exact h.elim
theorem agOf_spec {t : TypeId} {q : Option Nat} (h : agOf P t = some q) : ∃ d, P.underlying t = some d ∧ ((aggD d = false ∧ q = none) ∨ ∃ n, aggD d = true ∧ q = some n ∧ szOf P t = some n) := by
 unfold agOf at h
 split at h
 ·
  rename_i d hd
  refine ⟨d, hd, ?_⟩
  cases hg : aggD d with
  | false => rw [hg] at h; cases h; exact .inl ⟨rfl, rfl⟩
  | true =>
   rw [hg] at h
   cases hz : szOf P t with
   | none => rw [hz] at h; cases h
   | some n => rw [hz] at h; cases h; exact .inr ⟨n, rfl, rfl, rfl⟩
 ·
  cases h
theorem ixvV_sound {t : TypeId} {u v : V} {a b : Value} {F : FV} (hu : RepV w Im μ u a) (hv : RepV w Im μ v b) (h : ixvV P t u v F) : Comes w Im μ F fun w' k => ixvK P t a b w' k := by
 unfold ixvV at h
 split at h
 ·
  split at h
  ·
   rename_i har
   obtain ⟨k, q, rfl, hq0, hq, hq', hG⟩ := inK_sound hv h
   split at hG
   ·
    rename_i hag
    split at hG
    ·
     rename_i hz
     obtain ⟨hz, hl⟩ := hz
     subst hz
     obtain ⟨h1, h2⟩ := arOf_spec har
     obtain ⟨d, hd, hor⟩ := agOf_spec hag
     rcases hor with ⟨hgd, _⟩ | ⟨n, _, h9, _⟩
     ·
      cases hu with
      | @agg l C hn ho hr =>
       obtain ⟨x, hx, hF⟩ := atK_sound hG
       obtain ⟨c, hc, hxc⟩ := RepL.get ⟨hn, hr⟩ hx
       refine ⟨_, _, hxc, hF, fun w' k' => ?_⟩
       dsimp only
       rw [ixvK_of h1 hd hgd h2 ⟨hq0, hq⟩ (by omega), lstK_of hc]
     ·
      cases h9
    ·
     exact hG.elim
   ·
    exact hG.elim
  ·
   exact h.elim
 ·
  rename_i s
  split at h
  ·
   rename_i hst
   obtain ⟨k, q, rfl, hq0, hq, hq', hG⟩ := inK_sound hv h
   cases hu
   refine ⟨_, _, .lit rfl, hG, fun w' k' => ?_⟩
   have ht := isStr_spec hst
   show runK P (Instr.index t (.string s) (.int k q)) w' (k' true) = _
   unfold runK Instr.index
   simp only [asIntOf, pure_bind, Sem.run_bind, run_underlying ht, Result.andThen_ok]
   rw [if_pos hq0]
   have hlt : q.toNat < s.size := hq'
   have e : s[q.toNat]? = some (s[q.toNat]'hlt) := by
    rw [getElem?_pos]
   rw [e]
   have e2 : strAt s q.toNat = (s[q.toNat]'hlt).toNat := by
    unfold strAt
    congr 1
    rw [List.getD_eq_getElem?_getD, Array.getElem?_toList]
    have hd : q.toNat < s.data.size := hlt
    rw [Array.getElem?_eq_getElem hd]
    rfl
   rw [e2]
   rfl
  ·
   exact h.elim
 ·
  exact h.elim
theorem extV_sound {u : V} {j : Nat} {a : Value} {F : FV} (hu : RepV w Im μ u a) (h : extV u j F) : Comes w Im μ F fun w' k => extK a j w' k := by
 unfold extV at h
 split at h
 ·
  cases hu with
  | @tup l C hn hr =>
   obtain ⟨x, hx, hF⟩ := atK_sound h
   obtain ⟨c, hc, hxc⟩ := RepL.get ⟨hn, hr⟩ hx
   exact ⟨_, _, hxc, hF, fun w' k' => by dsimp only; rw [extK_of, lstK_of hc]⟩
 ·
  exact h.elim
theorem pickV_sound {c x y : V} {a b d : Value} {F : FV} (hc : RepV w Im μ c a) (hx : RepV w Im μ x b) (hy : RepV w Im μ y d) (h : pickV c x y F) : Comes w Im μ F fun w' k => pickK a b d w' k := by
 unfold pickV at h
 split at h
 ·
  rename_i t
  cases hc
  refine ⟨_, bif t then b else d, ?_, h, fun _ _ => rfl⟩
  cases t <;> assumption
 ·
  exact h.elim
end
end Go.Vx

namespace Go.Vx
open Go.Eng
set_option linter.unusedSimpArgs false
set_option linter.unusedVariables false
section
variable {w : World} {Im : Nat → Prop} {μ : Mu} {ρ : Vg} {ρc : Rg} {P : Program}

theorem bdK_sound {u : V} {n : Nat} {a : Value} {G : Nat → Prop} (hu : RepV w Im μ u a) (h : bdK u n G) : ∃ m, m ≤ n ∧ G m ∧ ∀ c w' n', n ≤ n' → (Instr.sliceBound a n' c).run P w' = .ok m w' := by
 unfold bdK at h
 split at h
 ·
  cases hu
  split at h
  ·
   rename_i hq
   exact ⟨_, by omega, h, fun c w' n' hn => run_sliceBound ⟨hq.1, by omega⟩ w'⟩
  ·
   exact h.elim
 ·
  exact h.elim
theorem bdoK_some {u : V} {d n : Nat} {G : Nat → Prop} : bdoK (some u) d n G = bdK u n G := rfl
theorem low_sound {lo : Option V} {lo' : Option Value} {h : Nat} {G : Nat → Prop} (hlo : RepOp w Im μ lo lo') (hG : bdoK lo 0 h G) : ∃ l, l ≤ h ∧ G l ∧ ((lo' = none ∧ l = 0) ∨ ∃ v, lo' = some v ∧ ∀ c w', (Instr.sliceBound v h c).run P w' = .ok l w') := by
 cases lo with
 | none =>
  cases lo' with
  | none => exact ⟨0, Nat.zero_le _, hG, .inl ⟨rfl, rfl⟩⟩
  | some _ => exact hlo.elim
 | some u =>
  cases lo' with
  | none => exact hlo.elim
  | some v =>
   obtain ⟨m, h1, h2, h3⟩ := bdK_sound (P := P) hlo (show bdK u h G from hG)
   exact ⟨m, h1, h2, .inr ⟨v, rfl, fun c w' => h3 c w' h (Nat.le_refl _)⟩⟩
theorem bounds_sound {b0 : Bool} {len cap n : Nat} {lo hi : Option V} {lo' hi' : Option Value} {G : Nat → Nat → Prop} (hlo : RepOp w Im μ lo lo') (hhi : RepOp w Im μ hi hi') (hn : n ≤ cap) (hln : len ≤ n)
  (h : bdoK hi len n fun h => bdoK lo 0 h fun l => G l h) : ∃ l h, l ≤ h ∧ h ≤ n ∧ G l h ∧ ∀ w', (Instr.sliceBounds b0 len cap lo' hi' none).run P w' = .ok (l, h, cap) w' := by
 cases hi with
 | none =>
  cases hi' with
  | some _ => exact hhi.elim
  | none =>
   obtain ⟨l, h1, h2, h3⟩ := low_sound (P := P) hlo (show bdoK lo 0 len _ from h)
   refine ⟨l, _, h1, hln, h2, fun w' => ?_⟩
   rcases h3 with ⟨rfl, rfl⟩ | ⟨v, rfl, h3⟩
   ·
    rfl
   ·
    unfold Instr.sliceBounds
    simp only [pure_bind, Sem.run_bind, h3, Result.andThen_ok, Option.isSome_none, Bool.false_eq_true, if_false]
    rfl
 | some u =>
  cases hi' with
  | none => exact hhi.elim
  | some v =>
   rw [bdoK_some] at h
   obtain ⟨m, h1, h2, h3⟩ := bdK_sound (P := P) hhi h
   obtain ⟨l, h4, h5, h6⟩ := low_sound (P := P) hlo h2
   refine ⟨l, m, h4, h1, h5, fun w' => ?_⟩
   have h3c : ∀ c w', (Instr.sliceBound v cap c).run P w' = .ok m w' := fun c w' => h3 c w' cap hn
   rcases h6 with ⟨rfl, rfl⟩ | ⟨v', rfl, h6⟩
   ·
    unfold Instr.sliceBounds
    simp only [pure_bind, Sem.run_bind, h3c, Result.andThen_ok, if_true]
    rfl
   ·
    unfold Instr.sliceBounds
    simp only [pure_bind, Sem.run_bind, h3c, h6, Result.andThen_ok, Option.isSome_none, Bool.false_eq_true, if_false, if_true]
    rfl
theorem bounds3_sound {len cap n : Nat} {lo hi : Option V} {mx : V} {lo' hi' : Option Value} {mx' : Value} {G : Nat → Nat → Prop} (hlo : RepOp w Im μ lo lo') (hhi : RepOp w Im μ hi hi') (hmx : RepV w Im μ mx mx') (hn : n ≤ cap) (hh : hi.isSome = true)
  (h : bdK mx n fun m => bdoK hi len m fun h => if m = h then bdoK lo 0 h fun l => G l h else False) : ∃ l h, l ≤ h ∧ h ≤ n ∧ G l h ∧ ∀ w', (Instr.sliceBounds true len cap lo' hi' (some mx')).run P w' = .ok (l, h, h) w' := by
 obtain ⟨m, h1, h2, h3⟩ := bdK_sound (P := P) hmx h
 cases hi with
 | none => cases hh
 | some u =>
  cases hi' with
  | none => exact hhi.elim
  | some v =>
   rw [bdoK_some] at h2
   obtain ⟨q, h4, h5, h6⟩ := bdK_sound (P := P) hhi h2
   split at h5
   ·
    rename_i e
    subst e
    obtain ⟨l, h7, h8, h9⟩ := low_sound (P := P) hlo h5
    refine ⟨l, m, h7, h1, h8, fun w' => ?_⟩
    have h3c : ∀ c w', (Instr.sliceBound mx' cap c).run P w' = .ok m w' := fun c w' => h3 c w' cap hn
    have h6c : ∀ c w', (Instr.sliceBound v m c).run P w' = .ok m w' := fun c w' => h6 c w' m (Nat.le_refl _)
    rcases h9 with ⟨rfl, rfl⟩ | ⟨v', rfl, h9⟩
    ·
     unfold Instr.sliceBounds
     simp only [pure_bind, Sem.run_bind, h3c, h6c, Result.andThen_ok, if_true]
     rfl
    ·
     unfold Instr.sliceBounds
     simp only [pure_bind, Sem.run_bind, h3c, h6c, h9, Result.andThen_ok, Option.isSome_some, if_true]
     rfl
   ·
    exact h5.elim

theorem flat_len {z : Nat} : ∀ {l : List (List PV)}, (∀ e ∈ l, e.length = z) → l.flatten.length = l.length * z
 | [], _ => by simp
 | e :: l, h => by
  have := flat_len (l := l) (fun x hx => h x (by simp [hx]))
  simp only [List.flatten_cons, List.length_append, List.length_cons, this, h e (by simp), Nat.add_mul]
  omega
theorem flat_take {z : Nat} : ∀ {l : List (List PV)} (n : Nat), (∀ e ∈ l, e.length = z) → (l.take n).flatten = l.flatten.take (n * z)
 | [], n, _ => by simp
 | e :: l, 0, _ => by simp
 | e :: l, n + 1, h => by
  have := flat_take (l := l) n (fun x hx => h x (by simp [hx]))
  have he := h e (by simp)
  have e2 : (n + 1) * z = e.length + n * z := by rw [he, Nat.add_mul]; omega
  rw [List.take_succ_cons, List.flatten_cons, this, List.flatten_cons, e2, List.take_length_add_append]
theorem flat_drop {z : Nat} : ∀ {l : List (List PV)} (n : Nat), (∀ e ∈ l, e.length = z) → (l.drop n).flatten = l.flatten.drop (n * z)
 | [], n, _ => by simp
 | e :: l, 0, _ => by simp
 | e :: l, n + 1, h => by
  have := flat_drop (l := l) n (fun x hx => h x (by simp [hx]))
  have he := h e (by simp)
  have e2 : (n + 1) * z = e.length + n * z := by rw [he, Nat.add_mul]; omega
  rw [List.drop_succ_cons, List.flatten_cons, this, e2, List.drop_length_add_append]
theorem RepP.part {z len cap : Nat} {l : List (List PV)} {a : Option Addr} (h : RepP w Im (.row z l) (.slice a len cap)) {i j cap' m : Nat} (hij : i ≤ j) (hj : j ≤ len) (hc : j - i ≤ cap') (hm : i ≤ m) (hmj : j ≤ m) :
  RepP w Im (.row z ((l.take j).drop i)) (.slice (if m = i then a else a.map (·.add (i * z))) (j - i) cap') := by
 cases h with
 | @row _ _ _ _ _ C hl hcap hz hR hI hn ho hr =>
  have hzt : ∀ e ∈ l.take j, e.length = z := fun e he => hz e (List.mem_of_mem_take he)
  have hflat : ((l.take j).drop i).flatten = (l.flatten.take (j * z)).drop (i * z) := by rw [flat_drop i hzt, flat_take j hz]
  have hfl := flat_len hz
  have hjz : j * z ≤ len * z := Nat.mul_le_mul_right z hj
  have hiz : i * z ≤ j * z := Nat.mul_le_mul_right z hij
  refine .row (C := (C.take (j * z)).drop (i * z)) (by simp; omega) hc (fun e he => hzt e (List.mem_of_mem_drop he)) ?_ ?_ ?_ (fun c hcc => ho c (List.mem_of_mem_take (List.mem_of_mem_drop hcc))) (fun q c p h1 h2 => ?_)
  ·
   refine ⟨fun hpos => ?_, fun q hq => ?_⟩
   ·
    simp at hpos
    have ha := hR.1 (by omega)
    split
    ·
     rename_i e
     subst e
     have : m = j := by omega
     subst this
     omega
    ·
     rw [ha]
     simp only [Option.map_some, addr_add, ab_some, ao_some]
   ·
    have hq' : i * z + q < C.length := by simp at hq; omega
    have ha := hR.1 (by omega)
    have h0 := hR.2 (i * z + q) hq'
    have hne : ¬ m = i := fun e => by
     subst e
     have : m = j := by omega
     subst this
     simp at hq
    rw [if_neg hne]
    rw [ha] at h0 ⊢
    simp only [Option.map_some, addr_add, ab_some, ao_some] at h0 ⊢
    rw [Nat.add_assoc, h0]
    simp
  ·
   intro hne
   have hpos : 0 < ((C.take (j * z)).drop (i * z)).length := by
    rcases Nat.eq_zero_or_pos ((C.take (j * z)).drop (i * z)).length with h | h
    ·
     exact absurd (List.length_eq_zero_iff.1 h) hne
    ·
     exact h
   simp at hpos
   have hCne : C ≠ [] := fun e => by subst e; simp at hpos
   have hi := hI hCne
   have ha := hR.1 (by omega)
   split
   ·
    exact hi
   ·
    rw [ha] at hi ⊢
    simpa only [Option.map_some, addr_add, ab_some] using hi
  ·
   simp only [List.length_drop, List.length_take, hn]
   rw [Nat.min_eq_left hjz, Nat.sub_mul]
  ·
   rw [hflat] at h2
   rw [List.getElem?_drop, List.getElem?_take] at h1 h2
   split at h1
   ·
    rw [if_pos ‹_›] at h2
    exact hr _ c p h1 h2
   ·
    cases h1
theorem slcK_lit {t e : TypeId} {z : Nat} {lo hi mx : Option Value} {u : Option Addr} {len cap l h m : Nat} (h1 : P.underlying t = some (.slice e)) (h2 : szOf P e = some z) (hr : ∀ w', (Instr.sliceBounds true len cap lo hi mx).run P w' = .ok (l, h, m) w') (w' : World) (k : Kv) :
  slcK P t (.slice u len cap) lo hi mx w' k = k true (.slice (if m = l then u else u.map (·.add (l * z))) (h - l) (m - l)) w' := slcK_gen h1 h2 hr
theorem RepOp.none {u : Option V} {v : Option Value} (h : RepOp w Im μ u v) (hu : u.isNone = true) : v = .none := by
 cases u with
 | none => cases v with | none => rfl | some _ => exact h.elim
 | some _ => cases hu
theorem slcA_sound {t : TypeId} {u : V} {lo hi mx : Option V} {a : Value} {lo' hi' mx' : Option Value} {F : FV} (hu : RepV w Im μ u a) (hlo : RepOp w Im μ lo lo') (hhi : RepOp w Im μ hi hi') (hmx : RepOp w Im μ mx mx') (h : slcA P t u lo hi mx F) :
  Comes w Im μ F fun w' k => slcK P t a lo' hi' mx' w' k := by
 unfold slcA at h
 split at h
 ·
  exact h.elim
 ·
  rename_i e z' hel
  obtain ⟨h1, h2⟩ := elOf_spec hel
  split at h
  ·
   split at h
   ·
    rename_i hz
    obtain ⟨rfl, hno⟩ := hz
    have := hmx.none hno
    subst this
    cases hu with
    | sl hs =>
     obtain ⟨hlc, hs⟩ := hs
     obtain ⟨l, q, hl, hq, hG, hr⟩ := bounds_sound (P := P) hlo hhi hlc (Nat.le_refl _) h
     refine ⟨_, _, .sl ?_, hG, slcK_lit h1 h2 hr⟩
     refine ⟨by omega, ?_⟩
     generalize μ[(_ : Nat)]? = loc at hs
     cases loc with
     | none => exact hs
     | some loc =>
      cases loc with
      | none =>
       obtain ⟨rfl, rfl, rfl, rfl⟩ := hs
       have : l = 0 := by omega
       subst this
       exact ⟨by simp, by omega, rfl, rfl⟩
      | some bn =>
       obtain ⟨b, n⟩ := bn
       obtain ⟨ha, hn⟩ := hs
       refine ⟨fun hor => ?_, ?_⟩
       ·
        have ha' := ha (by omega)
        subst ha'
        split
        ·
         have : l = 0 := by omega
         subst this
         simp
        ·
         simp only [Option.map_some, addr_add, Nat.add_mul]
       ·
        rw [Nat.add_mul, Nat.add_assoc, ← Nat.add_mul]
        have : l + (_ - l) = _ := Nat.add_sub_cancel' (Nat.le_trans hl (Nat.le_trans hq hlc))
        rw [this]
        exact hn
   ·
    exact h.elim
  ·
   split at h
   ·
    rename_i hz
    subst hz
    cases hu with
    | row hp =>
     cases hp with
     | @row _ _ _ _ ad C hl hcap hz hR hI hn ho hr =>
      have hp : RepP w Im (.row z' _) (.slice _ _ _) := .row hl hcap hz hR hI hn ho hr
      subst hl
      split at h
      ·
       rename_i mx
       have := hmx.none rfl
       subst this
       obtain ⟨l, q, hl, hq, hG, hr⟩ := bounds_sound (P := P) hlo hhi hcap (Nat.le_refl _) h
       exact ⟨_, _, .row (hp.part hl hq (by omega) (by omega) (by omega)), hG, slcK_lit h1 h2 hr⟩
      ·
       rename_i mx m
       cases mx' with
       | none => exact hmx.elim
       | some mv =>
        split at h
        ·
         rename_i hh
         obtain ⟨l, q, hl, hq, hG, hr⟩ := bounds3_sound (P := P) hlo hhi hmx hcap hh h
         exact ⟨_, _, .xrow (hp.part hl hq (Nat.le_refl _) hl (Nat.le_refl _)), hG, slcK_lit h1 h2 hr⟩
        ·
         exact h.elim
   ·
    exact h.elim
  ·
   split at h
   ·
    rename_i hz
    obtain ⟨rfl, hno⟩ := hz
    have := hmx.none hno
    subst this
    cases hu with
    | xrow hp =>
     cases hp with
     | @row _ _ _ _ ad C hl hcap hz hR hI hn ho hr =>
      have hp : RepP w Im (.row z' _) (.slice _ _ _) := .row hl hcap hz hR hI hn ho hr
      subst hl
      obtain ⟨l, q, hl, hq, hG, hr⟩ := bounds_sound (P := P) hlo hhi hcap (Nat.le_refl _) h
      exact ⟨_, _, .row (hp.part hl hq (by omega) (by omega) (by omega)), hG, slcK_lit h1 h2 hr⟩
   ·
    exact h.elim
  ·
   split at h
   ·
    rename_i hno
    have := hmx.none hno
    subst this
    cases hu
    obtain ⟨l, q, hl, hq, hG, hr⟩ := bounds_sound (P := P) hlo hhi (Nat.le_refl 0) (Nat.le_refl _) h
    refine ⟨_, _, .lit rfl, hG, fun w' k => ?_⟩
    dsimp only
    rw [slcK_lit h1 h2 hr]
    have hl0 : l = 0 := by omega
    have hq0 : q = 0 := by omega
    subst hl0 hq0
    rfl
   ·
    exact h.elim
  ·
   exact h.elim

theorem slcV_sound {t : TypeId} {u : V} {lo hi mx : Option V} {a : Value} {lo' hi' mx' : Option Value} {F : FV} (hu : RepV w Im μ u a) (hlo : RepOp w Im μ lo lo') (hhi : RepOp w Im μ hi hi') (hmx : RepOp w Im μ mx mx') (h : slcV P t u lo hi mx F) :
  Comes w Im μ F fun w' k => slcK P t a lo' hi' mx' w' k := by
 unfold slcV at h
 split at h
 ·
  rename_i s
  split at h
  ·
   rename_i hc
   obtain ⟨hst, hno⟩ := hc
   have ht := isStr_spec hst
   have := hmx.none hno
   subst this
   cases hu
   obtain ⟨l, q, hl, hq, hG, hr⟩ := bounds_sound (P := P) (b0 := false) hlo hhi (Nat.le_refl _) (Nat.le_refl _) h
   refine ⟨_, _, .lit rfl, hG, fun w' k => ?_⟩
   dsimp only
   unfold slcK runK Instr.sliceAt
   simp only [Sem.run_bind, run_underlying ht, Result.andThen_ok]
   unfold Instr.slice
   simp only [Sem.run_bind, run_underlying ht, Result.andThen_ok, Option.isSome_none, Bool.false_eq_true, if_false, hr, Sem.run_pure]
   rfl
  ·
   exact h.elim
 ·
  exact slcA_sound hu hlo hhi hmx h

theorem clK_sound {u : V} {a : Value} {F : List V → Prop} (hu : RepV w Im μ u a) (h : clK u F) : ∃ l, RepL w Im μ l a.cells.toList ∧ (∀ c ∈ a.cells.toList, oneC c = true) ∧ F l := by
 have one : ∀ (v : Value), oneC v = true → RepV w Im μ u v → F [u] → ∃ l, RepL w Im μ l v.cells.toList ∧ (∀ c ∈ v.cells.toList, oneC c = true) ∧ F l := fun v hv hr hF => by
  rw [cells_one hv]
  exact ⟨_, .cons hr .nil, fun c hc => by simp at hc; subst hc; exact hv, hF⟩
 unfold clK at h
 split at h
 ·
  cases hu with
  | agg hn ho hr => exact ⟨_, ⟨hn, hr⟩, ho, h⟩
 ·
  exact h.elim
 ·
  rename_i h1 h2
  cases hu with
  | lit hv => exact one _ hv (.lit hv) h
  | row hp => cases hp with | row q1 q2 q3 q4 q5 q6 q7 q8 => exact one _ rfl (.row (.row q1 q2 q3 q4 q5 q6 q7 q8)) h
  | xrow hp => exact one _ rfl (.xrow hp) h
  | ref hm => exact one _ rfl (.ref hm) h
  | sl hs => exact one _ rfl (.sl hs) h
  | rref q1 q2 q3 q4 q5 q6 => exact one _ rfl (.rref q1 q2 q3 q4 q5 q6) h
  | agg _ _ _ => exact absurd rfl (h1 _)
  | tup _ _ => exact absurd rfl (h2 _)
  | clo hn hr => exact one _ rfl (.clo hn hr) h
  | mref hm => exact one _ rfl (.mref hm) h
theorem pvK_sound {u : V} {a : Value} {F : PV → Prop} (hu : RepV w Im μ u a) (h : pvK u F) : ∃ p, RepP w Im p a ∧ F p := by
 unfold pvK at h
 split at h
 ·
  cases hu with | lit hv => exact ⟨_, .lit hv, h⟩
 ·
  cases hu with | row hp => exact ⟨_, hp, h⟩
 ·
  cases hu with | xrow hp => exact ⟨_, hp, h⟩
 ·
  cases hu with | rref q1 q2 q3 q4 q5 q6 => exact ⟨_, .ptr q1 q2 q3 q4 q5 q6, h⟩
 ·
  exact h.elim
theorem pvsK_sound : ∀ {us : List V} {C : List Value} {F : List PV → Prop}, RepL w Im μ us C → pvsK us F → ∃ ps, ps.length = us.length ∧ (∀ (i : Nat) c p, C[i]? = some c → ps[i]? = some p → RepP w Im p c) ∧ F ps
 | [], C, F, hr, h => ⟨[], rfl, fun i c p _ h => by simp at h, h⟩
 | u :: us, C, F, hr, h => by
  obtain ⟨v, vs, rfl, h1, h2⟩ := hr.uncons
  obtain ⟨p, h3, h4⟩ := pvK_sound h1 h
  obtain ⟨ps, h5, h6, h7⟩ := pvsK_sound h2 h4
  refine ⟨p :: ps, by simp [h5], fun i c q hc hq => ?_, h7⟩
  cases i with
  | zero => simp at hc hq; subst hc hq; exact h3
  | succ i => exact h6 i c q (by simpa using hc) (by simpa using hq)
theorem fold_set (o : Nat) : ∀ (cs : List Value) (k : Nat) (C : List Value), o + k + cs.length ≤ C.length →
  (cs.zipIdx k).foldl (fun (A : Array Value) (x : Value × Nat) => A.setIfInBounds (o + x.2) x.1) C.toArray = (C.take (o + k) ++ cs ++ C.drop (o + k + cs.length)).toArray
 | [], k, C, _ => by simp
 | c :: cs, k, C, h => by
  simp only [List.length_cons] at h
  simp only [List.zipIdx_cons, List.foldl_cons, List.setIfInBounds_toArray]
  rw [fold_set o cs (k + 1) (C.set (o + k) c) (by simp; omega)]
  congr 1
  rw [show o + (k + 1) = (o + k) + 1 by omega, List.take_succ_eq_append_getElem (by simp; omega), List.getElem_set_self, List.take_set_of_le (by omega), List.drop_set_of_lt (by omega)]
  simp [Nat.add_assoc, Nat.add_comm 1]
theorem RepL.write {l c : List V} {L C : List Value} {a : Nat} (h : RepL w Im μ l L) (hc : RepL w Im μ c C) : RepL w Im μ (l.take a ++ c ++ l.drop (a + c.length)) (L.take a ++ C ++ L.drop (a + C.length)) := by
 have h1 := h.part 0 a
 simp only [List.drop_zero] at h1
 have h2 := h.part (a + c.length) l.length
 rw [List.take_of_length_le (by simp), List.take_of_length_le (by simp [h.1])] at h2
 rw [hc.1]
 exact (h1.append hc).append h2
theorem write_one {L C : List Value} {a n : Nat} (h : ∀ c ∈ L, oneC c = true) (hc : ∀ c ∈ C, oneC c = true) : ∀ c ∈ L.take a ++ C ++ L.drop n, oneC c = true := by
 intro x hx
 simp only [List.mem_append] at hx
 rcases hx with (hx | hx) | hx
 ·
  exact h x (List.mem_of_mem_take hx)
 ·
  exact hc x hx
 ·
  exact h x (List.mem_of_mem_drop hx)
theorem fill_sound {place : Nat → Option (Nat × Nat)} : ∀ {js : List Nat} {us : List V} {vs : List Value} {l : List V} {C : List Value} {G : List V → Prop}, js.length = us.length → RepL w Im μ us vs → RepL w Im μ l C → (∀ c ∈ C, oneC c = true) → fillK place (js.zip us) l G →
  ∃ l' C', Instr.fill place C.toArray (js.zip vs) = some C'.toArray ∧ RepL w Im μ l' C' ∧ (∀ c ∈ C', oneC c = true) ∧ C'.length = C.length ∧ G l'
 | [], us, vs, l, C, G, hj, hr, hl, ho, h => ⟨l, C, by simp [Instr.fill], hl, ho, rfl, by simpa [fillK] using h⟩
 | j :: js, [], vs, l, C, G, hj, hr, hl, ho, h => by simp at hj
 | j :: js, u :: us, vs, l, C, G, hj, hr, hl, ho, h => by
  obtain ⟨v, vs, rfl, h1, h2⟩ := hr.uncons
  simp only [List.zip_cons_cons, fillK] at h
  cases hp : place j with
  | none => rw [hp] at h; exact h.elim
  | some on =>
   obtain ⟨o, n⟩ := on
   rw [hp] at h
   obtain ⟨c, h3, h4, h5⟩ := clK_sound h1 h
   obtain ⟨h6, h7⟩ := lenK_sound h5
   obtain ⟨h8, h9⟩ := wrK_sound h7
   have hlen : v.cells.toList.length = n := by rw [h3.1, h6]
   have hCl : C.length = l.length := hl.1
   obtain ⟨l', C', e1, e2, e3, e4, e5⟩ := fill_sound (js := js) (by simpa using hj) h2 (hl.write (a := o) h3) (write_one ho h4) h9
   refine ⟨l', C', ?_, e2, e3, ?_, e5⟩
   ·
    simp only [List.zip_cons_cons, Instr.fill, hp]
    rw [if_neg (by simp at hlen ⊢; omega)]
    rw [← e1]
    congr 1
    rw [← Array.foldl_toList, Array.toList_zipIdx]
    have := fold_set o v.cells.toList 0 C (by omega)
    simpa using this
   ·
    rw [e4]
    simp at hlen ⊢
    omega
theorem plOf_run {t : TypeId} {fs : Array Field} (w' : World) (hsz : ∀ f ∈ fs, ∃ z, szOf P f.type = some z) : ∃ places : Array (Nat × Nat), (fs.mapM fun f => do pure (f.offset, ← sizeOf f.type) : Sem (Array (Nat × Nat))).run P w' = .ok places w' ∧
  ∀ j : Nat, places[j]? = (fs[j]?).bind fun f => (szOf P f.type).map fun z => (f.offset, z) := by
 have key : ∀ (l : List Field), (∀ f ∈ l, ∃ z, szOf P f.type = some z) → ∃ ps : List (Nat × Nat), (l.mapM fun f => do pure (f.offset, ← sizeOf f.type) : Sem (List (Nat × Nat))).run P w' = .ok ps w' ∧ ∀ j : Nat, ps[j]? = (l[j]?).bind fun f => (szOf P f.type).map fun z => (f.offset, z) := by
  intro l
  induction l with
  | nil => intro _; exact ⟨[], rfl, fun j => by simp⟩
  | cons f l ih =>
   intro h
   obtain ⟨z, hz⟩ := h f (by simp)
   obtain ⟨ps, h1, h2⟩ := ih (fun x hx => h x (by simp [hx]))
   refine ⟨(f.offset, z) :: ps, ?_, fun j => ?_⟩
   ·
    rw [List.mapM_cons, Sem.run_bind, Sem.run_bind, Go.Eng.run_sizeOf hz, Result.andThen_ok]
    show ((pure (f.offset, z) : Sem (Nat × Nat)).run P w').andThen _ = _
    simp only [Sem.run, pure, Result.andThen_ok, Sem.run_bind]
    exact (congrArg (fun r : Result (List (Nat × Nat)) => r.andThen fun a w' => Result.ok ((f.offset, z) :: a) w') h1).trans rfl
   ·
    cases j with
    | zero => simp [hz]
    | succ j => simpa using h2 j
 obtain ⟨ps, h1, h2⟩ := key fs.toList (fun f hf => hsz f (by simpa using hf))
 refine ⟨ps.toArray, ?_, fun j => by simpa using h2 j⟩
 rw [← Array.toArray_toList (xs := fs), List.mapM_toArray, Sem.run_map, h1]
 rfl

theorem zeOf_spec {t : TypeId} {C : List Value} (h : zeOf P t = some C) : ∃ v, (P.info? t).bind (·.zero) = some v ∧ v.cells.toList = C := by
 unfold zeOf at h
 cases hz : (P.info? t).bind (·.zero) with
 | none => rw [hz] at h; cases h
 | some v => rw [hz] at h; exact ⟨v, rfl, by simpa using h⟩
theorem bldV_sound {t : TypeId} {js : List Nat} {us : List V} {vs : List Value} {F : FV} (hj : js.length = us.length) (hr : RepL w Im μ us vs) (h : bldV P t (js.zip us) F) : Comes w Im μ F fun w' k => bldK P t (js.zip vs) w' k := by
 unfold bldV at h
 cases hze : zeOf P t with
 | none => rw [hze] at h; exact h.elim
 | some C =>
  rw [hze] at h
  simp only at h
  split at h
  ·
   rename_i hag
   obtain ⟨zv, hzv, rfl⟩ := zeOf_spec hze
   obtain ⟨h1, h2⟩ := allOne_iff.1 h
   obtain ⟨l', C', e1, e2, e3, e4, e5⟩ := fill_sound (w := w) (Im := Im) (μ := μ) hj hr (RepL.lits h1) (all_mem h1) h2
   refine ⟨_, _, .agg e2.1 e3 e2.2, e5, fun w' k => ?_⟩
   show runK P (Instr.build t (js.zip vs).toArray) w' (k true) = _
   unfold runK Instr.build
   simp only [Sem.run_bind, run_zero hzv, Result.andThen_ok]
   obtain ⟨hag, hsz⟩ := hag
   rw [Array.toArray_toList] at e1
   unfold isAg at hag
   unfold szs at hsz
   cases hu : P.underlying t with
   | none => rw [hu] at hag; cases hag
   | some d =>
    rw [hu] at hag hsz
    simp only [run_underlying hu, Result.andThen_ok]
    cases d with
    | struct fs =>
     have hs2 : ∀ f ∈ fs, ∃ z, szOf P f.type = some z := fun f hf => Option.isSome_iff_exists.1 (List.all_eq_true.1 hsz f (by simpa using hf))
     obtain ⟨places, p1, p2⟩ := plOf_run (P := P) (t := t) w' hs2
     simp only [Sem.run_bind, p1, Result.andThen_ok]
     have e : (fun j : Nat => places[j]?) = plOf P t := by
      funext j
      rw [p2]
      unfold plOf
      rw [hu]
      dsimp only
      cases hfj : fs[j]? <;> rfl
     rw [e, e1]
     rfl
    | array n e =>
     obtain ⟨z, hz⟩ := Option.isSome_iff_exists.1 hsz
     simp only [Sem.run_bind, Go.Eng.run_sizeOf hz, Result.andThen_ok]
     have e : (fun j : Nat => some (j * z, z)) = plOf P t := by
      funext j
      unfold plOf
      rw [hu]
      simp [hz]
     rw [e, e1]
     rfl
    | _ => cases hag
  ·
   exact h.elim

theorem intsV_sound : ∀ {us : List V} {vs : List Value} {l : List (IntKind × Int)}, RepL w Im μ us vs → intsV us = some l → vs = l.map fun x => .int x.1 x.2
 | [], vs, l, hr, h => by
  cases h
  exact List.length_eq_zero_iff.1 (by simpa using hr.1)
 | u :: us, vs, l, hr, h => by
  obtain ⟨v, vs, rfl, h1, h2⟩ := hr.uncons
  unfold intsV at h
  split at h
  ·
   rename_i h0
   cases h0
  ·
   rename_i i a r e
   cases e
   cases h1
   cases hi : intsV us with
   | none => rw [hi] at h; cases h
   | some l' =>
    rw [hi] at h
    cases h
    rw [intsV_sound h2 hi]
    rfl
  ·
   cases h
theorem mm_fold {b : Builtin} {m2 : Value → Value → Sem Value} (hm : ∀ i j (x y : Int) (w : World), (m2 (.int i x) (.int j y)).run P w = .ok (.int i (mnmx b x y)) w) : ∀ (r : List (IntKind × Int)) (i : IntKind) (a : Int) (w' : World),
  ((r.map fun x => Value.int x.1 x.2).foldlM m2 (.int i a)).run P w' = .ok (.int i (r.foldl (fun q x => mnmx b q x.2) a)) w'
 | [], i, a, w' => rfl
 | x :: r, i, a, w' => by
  rw [List.map_cons, List.foldlM_cons, Sem.run_bind, hm, Result.andThen_ok, mm_fold hm r]
  rfl
theorem min_sound {ats : Array TypeId} {ty : TypeId} {cst : Array Bool} {us : List V} {vs : List Value} {F : FV} (hr : RepL w Im μ us vs) (h : mmV .min us F) : Comes w Im μ F fun w' k => bltK P .min ats ty cst vs w' k := by
 unfold mmV at h
 split at h
 ·
  rename_i i a r hi
  refine ⟨_, _, .lit rfl, h, fun w' k => ?_⟩
  have e := intsV_sound hr hi
  subst e
  have hrun := mm_fold (P := P) (b := .min) (m2 := Builtin.min2) (fun i j x y w => by
   have e : (if y < x then y else x) = min x y := by rw [Int.min_def]; split <;> split <;> omega
   show (pure (Value.int i (if y < x then y else x)) : Sem Value).run P w = _
   rw [e]
   rfl) r i a w'
  show resK ((Builtin.min_ ats ty (((i, a) :: r).map fun x => Value.int x.1 x.2).toArray >>= fun v => pure (Next.value v) : Sem Next).run P w') _ = _
  rw [Sem.run_bind]
  have e2 : Builtin.min_ ats ty (((i, a) :: r).map fun x => Value.int x.1 x.2).toArray = (r.map fun x => Value.int x.1 x.2).foldlM Builtin.min2 (.int i a) := rfl
  rw [e2, hrun]
  rfl
 ·
  exact h.elim
theorem max_sound {ats : Array TypeId} {ty : TypeId} {cst : Array Bool} {us : List V} {vs : List Value} {F : FV} (hr : RepL w Im μ us vs) (h : mmV .max us F) : Comes w Im μ F fun w' k => bltK P .max ats ty cst vs w' k := by
 unfold mmV at h
 split at h
 ·
  rename_i i a r hi
  refine ⟨_, _, .lit rfl, h, fun w' k => ?_⟩
  have e := intsV_sound hr hi
  subst e
  have hrun := mm_fold (P := P) (b := .max) (m2 := Builtin.max2) (fun i j x y w => by
   have e : (if y > x then y else x) = max x y := by rw [Int.max_def]; split <;> split <;> omega
   show (pure (Value.int i (if y > x then y else x)) : Sem Value).run P w = _
   rw [e]
   rfl) r i a w'
  show resK ((Builtin.max_ ats ty (((i, a) :: r).map fun x => Value.int x.1 x.2).toArray >>= fun v => pure (Next.value v) : Sem Next).run P w') _ = _
  rw [Sem.run_bind]
  have e2 : Builtin.max_ ats ty (((i, a) :: r).map fun x => Value.int x.1 x.2).toArray = (r.map fun x => Value.int x.1 x.2).foldlM Builtin.max2 (.int i a) := rfl
  rw [e2, hrun]
  rfl
 ·
  exact h.elim

theorem valV_sound {τ : Bool} {o : Oper} {F : FV} (hg : RepG w Im μ ρ ρc) (h : valV τ P o ρ F) : Comes w Im μ F fun w' k => opK true P o ρc w' k := by
 have with1 : ∀ {x : Operand} {G : V → Prop} {op : Value → World → Kv → Prop}, evV ρ x G → (∀ u a, RepV w Im μ u a → G u → Comes w Im μ F (op a)) → Comes w Im μ F fun w' k => evK ρc x fun a => op a w' k := by
  intro x G op hx hop
  obtain ⟨u, a, h1, h2, h3⟩ := evV_sound hg hx
  obtain ⟨u', v', h4, h5, h6⟩ := hop u a h1 h2
  exact ⟨u', v', h4, h5, fun w' k => by dsimp only; rw [h3]; exact h6 w' k⟩
 have witho : ∀ {x : Option Operand} {G : Option V → Prop} {op : Option Value → World → Kv → Prop}, evoV ρ x G → (∀ u a, RepOp w Im μ u a → G u → Comes w Im μ F (op a)) → Comes w Im μ F fun w' k => evoK ρc x fun a => op a w' k := by
  intro x G op hx hop
  obtain ⟨u, a, h1, h2, h3⟩ := evoV_sound hg hx
  obtain ⟨u', v', h4, h5, h6⟩ := hop u a h1 h2
  exact ⟨u', v', h4, h5, fun w' k => by dsimp only; rw [h3]; exact h6 w' k⟩
 obtain ⟨d, op, ty, pos, af, g⟩ := o
 unfold valV at h
 cases op with
 | move x => exact with1 (op := fun a w' k => k true a w') h fun u a h1 h2 => ⟨_, _, h1, h2, fun _ _ => rfl⟩
 | assign x => exact with1 (op := fun a w' k => k true a w') h fun u a h1 h2 => ⟨_, _, h1, h2, fun _ _ => rfl⟩
 | pick c x y =>
  exact with1 (op := fun c w' k => evK ρc x fun x => evK ρc y fun y => pickK c x y w' k) h fun u a h1 h2 =>
   with1 (op := fun x w' k => evK ρc y fun y => pickK a x y w' k) h2 fun u' a' h1' h2' =>
    with1 (op := fun y w' k => pickK a a' y w' k) h2' fun u'' a'' h1'' h2'' => pickV_sound h1 h1' h1'' h2''
 | nilCheck x => exact with1 (op := fun a w' k => ncK a w' k) h fun u a h1 h2 => ncV_sound h1 h2
 | binOp b t x y yt =>
  exact with1 (op := fun u w' k => evK ρc y fun v => binK P b t x y u v w' k) h fun u a h1 h2 =>
   with1 (op := fun v w' k => binK P b t x y a v w' k) h2 fun u' a' h1' h2' => binW_sound h1 h1' h2'
 | unOp b t x => exact with1 (op := fun a w' k => unoK P b a w' k) h fun u a h1 h2 => unoV_sound h1 h2
 | convert s t x => exact with1 (op := fun a w' k => cvtK P s t a w' k) h fun u a h1 h2 => cvtV_sound h1 h2
 | slice t x lo hi mx =>
  exact with1 (op := fun a w' k => evoK ρc lo fun lo => evoK ρc hi fun hi => evoK ρc mx fun mx => slcK P t a lo hi mx w' k) h fun u a h1 h2 =>
   witho (op := fun lo w' k => evoK ρc hi fun hi => evoK ρc mx fun mx => slcK P t a lo hi mx w' k) h2 fun u1 a1 h3 h4 =>
    witho (op := fun hi w' k => evoK ρc mx fun mx => slcK P t a a1 hi mx w' k) h4 fun u2 a2 h5 h6 =>
     witho (op := fun mx w' k => slcK P t a a1 a2 mx w' k) h6 fun u3 a3 h7 h8 => slcV_sound h1 h3 h5 h7 h8
 | fieldAddr s x f => exact with1 (op := fun a w' k => fadK P s a f w' k) h fun u a h1 h2 => fadV_sound h1 h2
 | field t x f => exact with1 (op := fun a w' k => fldK P t a f w' k) h fun u a h1 h2 => fldV_sound h1 h2
 | indexAddr t x i =>
  exact with1 (op := fun u w' k => evK ρc i fun v => idxK P t u v w' k) h fun u a h1 h2 =>
   with1 (op := fun v w' k => idxK P t a v w' k) h2 fun u' a' h1' h2' => idxV_sound h1 h1' h2'
 | index t x i =>
  exact with1 (op := fun u w' k => evK ρc i fun v => ixvK P t u v w' k) h fun u a h1 h2 =>
   with1 (op := fun v w' k => ixvK P t a v w' k) h2 fun u' a' h1' h2' => ixvV_sound h1 h1' h2'
 | extract x i =>
  obtain ⟨u, v, h1, h2, h3⟩ := with1 (op := fun a w' k => extK a i w' k) h fun u a h1 h2 => extV_sound h1 h2
  exact ⟨u, v, h1, h2, fun w' k => (Eq.trans opK_extract (h3 w' k) : _)⟩
 | build t ps =>
  obtain ⟨js, us, vs, h0, h1, h2, h3⟩ := evpV_sound hg h
  obtain ⟨u', v', h4, h5, h6⟩ := bldV_sound h0 h1 h2
  refine ⟨u', v', h4, h5, fun w' k => ?_⟩
  show (evpK ρc ps.toList fun vs => bldK P t vs w' k) = _
  rw [h3]
  exact h6 w' k
 | call c =>
  obtain ⟨callee, args, ats⟩ := c
  dsimp only at h
  have hargs : args = args.toList.toArray := by simp
  split at h
  ·
   obtain ⟨us, vs, h4, h5, h6⟩ := evsV_sound hg h
   obtain ⟨u', v', k1, k2, k3⟩ := min_sound (P := P) (ats := ats) (ty := ty) (cst := args.map fun | .const _ => true | _ => false) h4 h5
   refine ⟨u', v', k1, k2, fun w' k => ?_⟩
   show (evsK ρc args.toList fun us => bltK P .min ats ty (args.map fun | .const _ => true | _ => false) us w' k) = _
   rw [h6]
   exact k3 w' k
  ·
   obtain ⟨us, vs, h4, h5, h6⟩ := evsV_sound hg h
   obtain ⟨u', v', k1, k2, k3⟩ := max_sound (P := P) (ats := ats) (ty := ty) (cst := args.map fun | .const _ => true | _ => false) h4 h5
   refine ⟨u', v', k1, k2, fun w' k => ?_⟩
   show (evsK ρc args.toList fun us => bltK P .max ats ty (args.map fun | .const _ => true | _ => false) us w' k) = _
   rw [h6]
   exact k3 w' k
  ·
   exact h.elim
 | makeInterface t x => exact with1 (op := fun a w' k => runK P (Instr.makeInterface t a) w' (k true)) h fun u a h1 h2 => mkiV_sound h1 h2
 | _ => exact (h : False).elim
end
end Go.Vx

namespace Go.Vx
open Go.Eng
set_option linter.unusedSimpArgs false
set_option linter.unusedVariables false
section
variable {w w' : World} {Im : Nat → Prop} {μ : Mu} {σ : St} {ρ : Vg} {ρc : Rg} {P : Program}

theorem get_snoc {α : Type} {l : List α} {x : α} {i : Nat} : (l ++ [x])[i]? = if i < l.length then l[i]? else if i = l.length then some x else none := by
 by_cases h : i < l.length
 ·
  rw [if_pos h, List.getElem?_append_left h]
 ·
  rw [if_neg h, List.getElem?_append_right (by omega)]
  by_cases h2 : i = l.length
  ·
   subst h2; simp
  ·
   rw [if_neg h2, List.getElem?_eq_none (by simp; omega)]
theorem get_lt {α : Type} {l : List α} {x : α} {i : Nat} (h : l[i]? = some x) : i < l.length := (List.getElem?_eq_some_iff.1 h).1

theorem Rel.add (r : Rel μ Im σ w) {loc : Option (Nat × Nat)} {ob : Ob} (hx : Ext [] w w') (hf : ∀ b n, loc = some (b, n) → w.heap.size ≤ b) (ho : RepO w' Im (μ ++ [loc]) loc ob) :
  Rel (μ ++ [loc]) Im (σ ++ [some ob]) w' ∧ Stp μ Im σ w (μ ++ [loc]) Im (σ ++ [some ob]) w' := by
 have hl := r.len
 have hm : Mono μ Im w (μ ++ [loc]) Im w' := ⟨List.prefix_append _ _, fun _ h => h, fun b hb => hx.block b (r.im b hb).1 (by simp)⟩
 have hlive : ∀ b ∈ live (μ ++ [loc]) (σ ++ [some ob]), b ∈ live μ σ ∨ w.heap.size ≤ b := by
  intro b hb
  obtain ⟨o, n, ob', h1, h2⟩ := mem_live.1 hb
  rw [get_snoc] at h1 h2
  split at h1
  ·
   rw [if_pos (by omega)] at h2
   exact .inl (mem_live.2 ⟨o, n, ob', h1, h2⟩)
  ·
   split at h1
   ·
    cases h1
    exact .inr (hf b n rfl)
   ·
    cases h1
 refine ⟨⟨by simp [hl], fun o ob' h => ?_, fun o o' q q' b n n' h1 h2 h3 h4 => ?_, fun b hb => ⟨Nat.lt_of_lt_of_le (r.im b hb).1 hx.size, fun hb' => ?_⟩, r.lay.mono hm⟩, ⟨List.prefix_append _ _, fun _ h => h, hx.mono (by simp), hlive, fun _ h => .inl h⟩⟩
 ·
  rw [get_snoc] at h
  split at h
  ·
   obtain ⟨loc', h1, h2⟩ := r.rep o ob' h
   refine ⟨loc', by rw [get_snoc, if_pos (by omega)]; exact h1, h2.mono hm (fun b n e => ?_)⟩
   subst e
   exact hx.block b (r.lt (mem_live.2 ⟨o, n, ob', h1, h⟩)) (by simp)
  ·
   split at h
   ·
    cases h
    rename_i _ e
    exact ⟨loc, by rw [get_snoc, if_neg (by omega), if_pos (by omega)], ho⟩
   ·
    cases h
 ·
  rw [get_snoc] at h1 h2 h3 h4
  split at h3
  ·
   rw [if_pos (by omega)] at h1
   split at h4
   ·
    rw [if_pos (by omega)] at h2
    exact r.inj o o' q q' b n n' h1 h2 h3 h4
   ·
    split at h4
    ·
     cases h4
     have := hf b n' rfl
     have := r.lt (mem_live.2 ⟨o, n, q, h3, h1⟩)
     omega
    ·
     cases h4
  ·
   split at h3
   ·
    cases h3
    have := hf b n rfl
    split at h4
    ·
     rw [if_pos (by omega)] at h2
     have := r.lt (mem_live.2 ⟨o', n', q', h4, h2⟩)
     omega
    ·
     split at h4
     ·
      omega
     ·
      cases h4
   ·
    cases h3
 ·
  rcases hlive b hb' with h | h
  ·
   exact (r.im b hb).2 h
  ·
   have := (r.im b hb).1; omega

theorem live_set {o : Nat} {ob ob' : Ob} (h : σ[o]? = some (some ob)) {b : Nat} : b ∈ live μ (σ.set o (some ob')) ↔ b ∈ live μ σ := by
 rw [mem_live, mem_live]
 constructor
 ·
  rintro ⟨i, n, q, h1, h2⟩
  by_cases e : o = i
  ·
   subst e; exact ⟨o, n, ob, h1, h⟩
  ·
   rw [List.getElem?_set_ne e] at h2; exact ⟨i, n, q, h1, h2⟩
 ·
  rintro ⟨i, n, q, h1, h2⟩
  by_cases e : o = i
  ·
   subst e; exact ⟨o, n, ob', h1, by rw [List.getElem?_set_self (get_lt h)]⟩
  ·
   exact ⟨i, n, q, h1, by rw [List.getElem?_set_ne e]; exact h2⟩
theorem Rel.upd (r : Rel μ Im σ w) {o b n : Nat} {ob ob' : Ob} (hσ : σ[o]? = some (some ob)) (hμ : μ[o]? = some (some (b, n))) (hx : Ext [b] w w') (ho : RepO w' Im μ (some (b, n)) ob') :
  Rel μ Im (σ.set o (some ob')) w' ∧ Stp μ Im σ w μ Im (σ.set o (some ob')) w' := by
 have hbl : b ∈ live μ σ := mem_live.2 ⟨o, n, ob, hμ, hσ⟩
 have hm : Mono μ Im w μ Im w' := ⟨List.prefix_refl _, fun _ h => h, fun c hc => hx.block c (r.im c hc).1 (by
  simp only [List.mem_singleton]
  intro e
  subst e
  exact (r.im c hc).2 hbl)⟩
 refine ⟨⟨by simp [r.len], fun i q h => ?_, fun i j q q' c m m' h1 h2 h3 h4 => ?_, fun c hc => ⟨Nat.lt_of_lt_of_le (r.im c hc).1 hx.size, fun h => (r.im c hc).2 ((live_set hσ).1 h)⟩, r.lay.mono hm⟩,
  ⟨List.prefix_refl _, fun _ h => h, hx.mono (by simp; exact .inl hbl), fun c hc => .inl ((live_set hσ).1 hc), fun _ h => .inl h⟩⟩
 ·
  by_cases e : o = i
  ·
   subst e
   rw [List.getElem?_set_self (get_lt hσ)] at h
   cases h
   exact ⟨_, hμ, ho⟩
  ·
   rw [List.getElem?_set_ne e] at h
   obtain ⟨loc, h1, h2⟩ := r.rep i q h
   refine ⟨loc, h1, h2.mono hm fun c m e' => ?_⟩
   subst e'
   refine hx.block c (r.lt (mem_live.2 ⟨i, m, q, h1, h⟩)) ?_
   simp only [List.mem_singleton]
   intro e'
   subst e'
   exact e (r.inj o i ob q c n m hσ h hμ h1)
 ·
  have back : ∀ (i : Nat) q, (σ.set o (some ob'))[i]? = some (some q) → ∃ q', σ[i]? = some (some q') := by
   intro i q h
   by_cases e : o = i
   ·
    subst e; exact ⟨ob, hσ⟩
   ·
    rw [List.getElem?_set_ne e] at h; exact ⟨q, h⟩
  obtain ⟨_, k1⟩ := back i q h1
  obtain ⟨_, k2⟩ := back j q' h2
  exact r.inj i j _ _ c m m' k1 k2 h3 h4
theorem Rel.renew (r : Rel μ Im σ w) {o : Nat} {ob ob' : Ob} {loc loc' : Option (Nat × Nat)} (hσ : σ[o]? = some (some ob)) (hμ : μ[o]? = some loc) (hx : Ext (live μ σ) w w')
  (hu : ∀ c ∈ live μ σ, (∀ n, loc ≠ some (c, n)) → w'.heap[c]? = w.heap[c]?) (hl' : ∀ b n, loc' = some (b, n) → (∃ n', loc = some (b, n')) ∨ w.heap.size ≤ b) (ho : RepO w' Im (μ ++ [loc']) loc' ob') :
  Rel (μ ++ [loc']) Im (σ.set o none ++ [some ob']) w' ∧ Stp μ Im σ w (μ ++ [loc']) Im (σ.set o none ++ [some ob']) w' := by
 have hl := r.len
 have hm : Mono μ Im w (μ ++ [loc']) Im w' := ⟨List.prefix_append _ _, fun _ h => h, fun c hc => hx.block c (r.im c hc).1 (r.im c hc).2⟩
 have old : ∀ (i : Nat) q, (σ.set o none)[i]? = some (some q) → i ≠ o ∧ σ[i]? = some (some q) := by
  intro i q h
  by_cases e : o = i
  ·
   subst e
   rw [List.getElem?_set_self (get_lt hσ)] at h
   cases h
  ·
   rw [List.getElem?_set_ne e] at h
   exact ⟨fun e' => e e'.symm, h⟩
 have hlive : ∀ b ∈ live (μ ++ [loc']) (σ.set o none ++ [some ob']), b ∈ live μ σ ∨ w.heap.size ≤ b := by
  intro b hb
  obtain ⟨i, n, q, h1, h2⟩ := mem_live.1 hb
  rw [get_snoc] at h1 h2
  simp only [List.length_set] at h2
  split at h1
  ·
   rw [if_pos (by omega)] at h2
   exact .inl (mem_live.2 ⟨i, n, q, h1, (old i q h2).2⟩)
  ·
   split at h1
   ·
    cases h1
    rcases hl' b n rfl with ⟨n', e⟩ | h
    ·
     subst e; exact .inl (mem_live.2 ⟨o, n', ob, hμ, hσ⟩)
    ·
     exact .inr h
   ·
    cases h1
 refine ⟨⟨by simp [hl], fun i q h => ?_, fun i j q q' c m m' h1 h2 h3 h4 => ?_, fun c hc => ⟨Nat.lt_of_lt_of_le (r.im c hc).1 hx.size, fun h => ?_⟩, r.lay.mono hm⟩, ⟨List.prefix_append _ _, fun _ h => h, hx, hlive, fun _ h => .inl h⟩⟩
 ·
  rw [get_snoc] at h
  simp only [List.length_set] at h
  split at h
  ·
   obtain ⟨hne, h⟩ := old i q h
   obtain ⟨l, h1, h2⟩ := r.rep i q h
   refine ⟨l, by rw [get_snoc, if_pos (by omega)]; exact h1, h2.mono hm fun c m e => ?_⟩
   subst e
   refine hu c (mem_live.2 ⟨i, m, q, h1, h⟩) fun n e => ?_
   subst e
   exact hne (r.inj i o q ob c m n h hσ h1 hμ)
  ·
   split at h
   ·
    cases h
    exact ⟨loc', by rw [get_snoc, if_neg (by omega), if_pos (by omega)], ho⟩
   ·
    cases h
 ·
  rw [get_snoc] at h1 h2 h3 h4
  simp only [List.length_set] at h1 h2
  have other : ∀ (i : Nat) q c m m', i < μ.length → (σ.set o none)[i]? = some (some q) → μ[i]? = some (some (c, m)) → loc' = some (c, m') → False := by
   intro i q c m m' hi h1 h3 h4
   obtain ⟨hne, h⟩ := old i q h1
   rcases hl' c m' h4 with ⟨n', e⟩ | h'
   ·
    subst e
    exact hne (r.inj i o q ob c m n' h hσ h3 hμ)
   ·
    have := r.lt (mem_live.2 ⟨i, m, q, h3, h⟩)
    omega
  split at h3
  ·
   rw [if_pos (by omega)] at h1
   split at h4
   ·
    rw [if_pos (by omega)] at h2
    exact r.inj i j q q' c m m' (old i q h1).2 (old j q' h2).2 h3 h4
   ·
    split at h4
    ·
     injection h4 with h4
     exact (other i q c m m' ‹_› h1 h3 h4).elim
    ·
     cases h4
  ·
   split at h3
   ·
    injection h3 with h3
    split at h4
    ·
     rw [if_pos (by omega)] at h2
     exact (other j q' c m' m ‹_› h2 h4 h3).elim
    ·
     split at h4
     ·
      omega
     ·
      cases h4
   ·
    cases h3
 ·
  rcases hlive c h with h | h
  ·
   exact (r.im c hc).2 h
  ·
   have := (r.im c hc).1; omega

theorem obV_sound {o : Nat} {F : Ob → Prop} (h : obV σ o F) : ∃ ob, σ[o]? = some (some ob) ∧ F ob := by
 obtain ⟨x, hx, h⟩ := atK_sound h
 cases x with
 | none => exact h.elim
 | some ob => exact ⟨ob, hx, h⟩

def Runs (e : Bool) (μ : Mu) (Im : Nat → Prop) (σ : St) (w : World) (K : KV) (op : Kv → Prop) : Prop :=
 ∀ k : Kv, (∀ v w' u σ' μ' Im', Rel μ' Im' σ' w' → Stp μ Im σ w μ' Im' σ' w' → (e = true → Ext [] w w') → RepV w' Im' μ' u v → K true u σ' → k true v w') → op k

theorem RepP.one {p : PV} {v : Value} (h : RepP w Im p v) : oneC v = true := by
 cases h with
 | lit h => exact h
 | row => rfl
 | ptr => rfl
theorem flat_get {z : Nat} : ∀ {l : List (List PV)} {i off : Nat} {e : List PV}, (∀ e ∈ l, e.length = z) → l[i]? = some e → off < z → l.flatten[i * z + off]? = e[off]?
 | [], i, off, e, _, h, _ => by simp at h
 | x :: l, 0, off, e, hz, h, ho => by
  simp at h
  subst h
  simp only [List.flatten_cons, Nat.zero_mul, Nat.zero_add]
  rw [List.getElem?_append_left (by rw [hz x (by simp)]; exact ho)]
 | x :: l, i + 1, off, e, hz, h, ho => by
  have hx := hz x (by simp)
  simp only [List.flatten_cons]
  rw [List.getElem?_append_right (by rw [hx, Nat.add_mul]; omega), hx]
  have := flat_get (l := l) (i := i) (off := off) (fun y hy => hz y (by simp [hy])) (by simpa using h) ho
  rw [← this]
  congr 1
  rw [Nat.add_mul]
  omega
theorem ofP_rep {p : PV} {v : Value} (h : RepP w Im p v) : RepV w Im μ (V.ofP p) v := by
 cases h with
 | lit h => exact .lit h
 | row q1 q2 q3 q4 q5 q6 q7 q8 => exact .row (.row q1 q2 q3 q4 q5 q6 q7 q8)
 | ptr q1 q2 q3 q4 q5 q6 => exact .rref q1 q2 q3 q4 q5 q6
theorem rdP_sound {e : List PV} {off b base : Nat} {q : Option Nat} {F : FV} {t : TypeId} {C : List Value} (hq : agOf P t = some q) (hb : ∀ j c, C[j]? = some c → w.cell? ⟨b, base + j, none⟩ = some c) (hn : C.length = e.length) (hr : ∀ (j : Nat) c p, C[j]? = some c → e[j]? = some p → RepP w Im p c) (h : rdP e off q F) :
  ∃ u v, RepV w Im μ u v ∧ F true u ∧ ∀ k : Kv, loadK P t (.pointer (some ⟨b, base + off, none⟩)) w k = k true v w := by
 obtain ⟨d, hd, hor⟩ := agOf_spec hq
 unfold rdP at h
 rcases hor with ⟨hg, rfl⟩ | ⟨n, hg, rfl, hz⟩
 ·
  obtain ⟨p, h1, h2⟩ := atK_sound h
  have hc : C[off]? = some (C[off]'(by rw [hn]; exact get_lt h1)) := List.getElem?_eq_getElem _
  refine ⟨_, _, ofP_rep (hr off _ p hc h1), h2, fun k => ?_⟩
  rw [loadK_cell hd hg, cellK_of (hb off _ hc)]
 ·
  obtain ⟨h1, h2⟩ := tkK_sound h
  have hlen : ((C.drop off).take n).length = n := by simp; omega
  refine ⟨_, .agg ((C.drop off).take n).toArray, .agg (by simp; omega) (fun c hc => ?_) (fun i u c hu hc => ?_), h2, fun k => ?_⟩
  ·
   have hc' := List.mem_of_mem_drop (List.mem_of_mem_take hc)
   obtain ⟨j, hj, hje⟩ := List.mem_iff_getElem.1 hc'
   have hp : e[j]? = some (e[j]'(by omega)) := List.getElem?_eq_getElem _
   exact (hr j c _ (by rw [← hje]; exact List.getElem?_eq_getElem _) hp).one
  ·
   rw [List.getElem?_map] at hu
   rw [List.getElem?_take] at hc hu
   split at hc
   ·
    rw [if_pos ‹_›] at hu
    rw [List.getElem?_drop] at hc hu
    cases hp : e[off + i]? with
    | none => rw [hp] at hu; cases hu
    | some p =>
     rw [hp] at hu
     cases hu
     exact ofP_rep (hr _ _ _ hc hp)
   ·
    cases hc
  ·
   rw [loadK_agg hd hg hz]
   refine cellsK_of (cs := (C.drop off).take n) (fun i hi => ?_) hlen.symm
   rw [hlen] at hi
   rw [Nat.add_assoc]
   refine hb (off + i) _ ?_
   simp
theorem ldV_sound {t : TypeId} {u : V} {a : Value} {F : FV} (r : Rel μ Im σ w) (hu : RepV w Im μ u a) (h : ldV P t u σ F) : ∃ u v, RepV w Im μ u v ∧ F true u ∧ ∀ k : Kv, loadK P t a w k = k true v w := by
 unfold ldV at h
 cases hq : agOf P t with
 | none => rw [hq] at h; exact h.elim
 | some q =>
  rw [hq] at h
  simp only at h
  unfold rdV at h
  split at h
  ·
   rename_i o z i off
   obtain ⟨ob, hob, hh⟩ := obV_sound h
   clear h
   cases hu with
   | @ref _ _ _ _ b n hm =>
    obtain ⟨loc, hl, hO⟩ := r.rep _ ob hob
    rw [hm] at hl
    cases hl
    unfold rdO at hh
    split at hh
    ·
     rename_i l
     unfold adr at hh
     obtain ⟨b', C, D, e, hB, ho, hL⟩ := hO
     cases e
     obtain ⟨d, hd, hor⟩ := agOf_spec hq
     rcases hor with ⟨hg, rfl⟩ | ⟨n, hg, rfl, hz⟩
     ·
      obtain ⟨x, hx, hF⟩ := atK_sound hh
      obtain ⟨c, hc, hxc⟩ := hL.get hx
      refine ⟨_, _, hxc, hF, fun k => ?_⟩
      rw [loadK_cell hd hg, cellK_of (hB.cell (get_l hc))]
     ·
      obtain ⟨h1, h2⟩ := tkK_sound hh
      have hp := hL.part (i * z + off) n
      have hCl := hL.1
      refine ⟨_, _, .agg hp.1 (fun c hc => ho c (List.mem_of_mem_drop (List.mem_of_mem_take hc))) hp.2, h2, fun k => ?_⟩
      rw [loadK_agg hd hg hz]
      refine cellsK_of (cs := (C.drop (i * z + off)).take n) (fun j hj => ?_) (by simp; omega)
      have hj' : j < n := by simp at hj; omega
      refine hB.cell (get_l ?_)
      rw [List.getElem_take, List.getElem_drop]
      exact List.getElem?_eq_getElem _
    ·
     rename_i z' l
     split at hh
     ·
      rename_i e
      subst e
      obtain ⟨hz, hO⟩ := hO
      rcases hO with ⟨e, _⟩ | ⟨b', C, e, hB, hl, hr⟩
      ·
       cases e
      ·
       cases e
       obtain ⟨el, hel, h⟩ := atK_sound hh
       have hez := hz el (List.mem_of_getElem? hel)
       have hil := get_lt hel
       have hle : i * z' + z' ≤ l.length * z' := by rw [← Nat.succ_mul]; exact Nat.mul_le_mul_right z' hil
       refine rdP_sound (C := (C.drop (i * z')).take z') hq (fun j c hc => ?_) (by simp; omega) (fun j c p hc hp => ?_) h
       ·
        rw [List.getElem?_take] at hc
        split at hc
        ·
         rw [List.getElem?_drop] at hc
         exact hB.cell hc
        ·
         cases hc
       ·
        rw [List.getElem?_take] at hc
        split at hc
        ·
         rename_i hj
         rw [List.getElem?_drop] at hc
         exact hr _ c p hc (by rw [flat_get hz hel hj]; exact hp)
        ·
         cases hc
     ·
      exact hh.elim
    ·
     exact hh.elim
  ·
   rename_i z l i off
   cases hu with
   | @rref _ _ _ _ ad C hz hR hI hn ho hr =>
    obtain ⟨el, hel, h⟩ := atK_sound h
    have hez := hz el (List.mem_of_getElem? hel)
    have hil := get_lt hel
    have hle : i * z + z ≤ l.length * z := by rw [← Nat.succ_mul]; exact Nat.mul_le_mul_right z hil
    refine rdP_sound (C := (C.drop (i * z)).take z) hq (fun j c hc => ?_) (by simp; omega) (fun j c p hc hp => ?_) h
    ·
     rw [List.getElem?_take] at hc
     split at hc
     ·
      rw [List.getElem?_drop] at hc
      have := hR.2 (i * z + j) (get_lt hc)
      rw [Nat.add_assoc, this, ← List.getElem?_eq_getElem, hc]
     ·
      cases hc
    ·
     rw [List.getElem?_take] at hc
     split at hc
     ·
      rename_i hj
      rw [List.getElem?_drop] at hc
      exact hr _ c p hc (by rw [flat_get hz hel hj]; exact hp)
     ·
      cases hc
  ·
   rename_i g m
   split at h
   ·
    unfold layK layAt at h
    split at h
    ·
     rename_i v hv
     split at h
     ·
      rename_i ho
      obtain ⟨e, he, hm⟩ := Option.bind_eq_some_iff.1 hv
      have hg := List.find?_some he
      have hmem := List.mem_of_find?_eq_some he
      obtain ⟨_, hR⟩ := r.lay e hmem
      have hge : e.1 = g := by simpa using hg
      subst hge
      obtain ⟨d, hd, hor⟩ := agOf_spec hq
      rcases hor with ⟨hag, _⟩ | ⟨n, _, hq', _⟩
      ·
       cases hu
       refine ⟨_, v, .lit ho, h, fun k => ?_⟩
       have hc := hR.2 m (get_lt hm)
       rw [show ab (some ⟨e.1, 0, none⟩) = e.1 from rfl, show ao (some ⟨e.1, 0, none⟩) = 0 from rfl, Nat.zero_add] at hc
       rw [loadK_cell hd hag, cellK_of (v := v)]
       rw [hc]
       have := List.getElem?_eq_some_iff.1 hm
       obtain ⟨h1, h2⟩ := this
       rw [h2]
      ·
       cases hq'
     ·
      exact h.elim
    ·
     exact h.elim
   ·
    exact h.elim
  ·
   exact h.elim
theorem slcK_arr {t e : TypeId} {n z b l q : Nat} {lo hi : Option Value} {w' : World} {k : Kv} (h1 : P.underlying t = some (.array n e)) (h2 : szOf P e = some z) (hr : ∀ w', (Instr.sliceBounds false n n lo hi none).run P w' = .ok (l, q, n) w') :
  slcK P t (.pointer (some ⟨b, 0, none⟩)) lo hi none w' k = k true (.slice (some (if n = l then ⟨b, 0, none⟩ else ⟨b, l * z, none⟩)) (q - l) (n - l)) w' := by
 unfold slcK runK Instr.sliceAt Instr.sureAddr
 simp only [Sem.run_bind, run_underlying h1, Result.andThen_ok, pure_bind, hr, Go.Eng.run_sizeOf h2]
 have e : Addr.add ⟨b, 0, none⟩ (l * z) = ⟨b, l * z, none⟩ := by simp [Addr.add]; intro h; exact h.symm
 rw [e]
 rfl
theorem slcS_sound {t : TypeId} {u : V} {lo hi mx : Option V} {a : Value} {lo' hi' mx' : Option Value} {F : FV} (r : Rel μ Im σ w) (hu : RepV w Im μ u a) (hlo : RepOp w Im μ lo lo') (hhi : RepOp w Im μ hi hi') (hmx : RepOp w Im μ mx mx') (h : slcS P t u lo hi mx σ F) :
  Comes w Im μ F fun w' k => slcK P t a lo' hi' mx' w' k := by
 unfold slcS at h
 split at h
 ·
  rename_i o
  have := hmx.none rfl
  subst this
  unfold slaV at h
  split at h
  ·
   rename_i n e z har
   obtain ⟨h1, h2⟩ := arOf_spec har
   obtain ⟨ob, hob, hh⟩ := obV_sound h
   split at hh
   ·
    rename_i hc
    obtain ⟨hc0, hc1⟩ := hc
    cases hu with
    | @ref _ _ _ _ b N hm =>
     obtain ⟨loc, hl, hO⟩ := r.rep _ ob hob
     rw [hm] at hl
     cases hl
     have hN : obN ob ≤ N := by
      cases ob with
      | cells l =>
       obtain ⟨b', C, D, e', _, _, hL⟩ := hO
       cases e'
       show l.length ≤ (C ++ D).length
       rw [List.length_append, hL.1]
       exact Nat.le_add_right _ _
      | row z' l =>
       obtain ⟨_, hO⟩ := hO
       rcases hO with ⟨e', _⟩ | ⟨b', C, e', _, hle, _⟩
       ·
        cases e'
       ·
        cases e'; exact hle
      | _ => exact Nat.zero_le _
     obtain ⟨l, q, hlq, hqn, hG, hr⟩ := bounds_sound (P := P) (b0 := false) hlo hhi (Nat.le_refl n) (Nat.le_refl n) hh
     refine ⟨_, .slice (some (if n = l then ⟨b, 0, none⟩ else ⟨b, l * z, none⟩)) (q - l) (n - l), .sl ?_, hG, fun w' k => ?_⟩
     ·
      rw [hm]
      have hz : 0 < z := by
       rcases Nat.eq_zero_or_pos z with e' | e'
       ·
        subst e'; simp at hc0
       ·
        exact e'
      have hle : l * z + (n - l) * z = n * z := by rw [← Nat.add_mul]; congr 1; omega
      refine ⟨by omega, fun hor => ?_, by omega⟩
      by_cases hnl : n = l
      ·
       have : n = 0 ∧ l = 0 := by omega
       rw [this.1] at hc0
       simp at hc0
      ·
       rw [if_neg hnl]
     ·
      dsimp only
      have e' : (0 * 0 + 0 : Nat) = 0 := rfl
      rw [e']
      exact slcK_arr h1 h2 hr
   ·
    exact hh.elim
  ·
   exact h.elim
 ·
  exact slcV_sound hu hlo hhi hmx h
end
end Go.Vx

namespace Go.Vx
open Go.Eng
set_option linter.unusedSimpArgs false
set_option linter.unusedVariables false
section
variable {w w' : World} {Im : Nat → Prop} {μ : Mu} {σ : St} {ρ : Vg} {ρc : Rg} {P : Program}

theorem setL_eq {C vs : List Value} {o : Nat} (h : o + vs.length ≤ C.length) : setL C o vs = C.take o ++ vs ++ C.drop (o + vs.length) := by
 apply List.ext_getElem?
 intro j
 rw [setL_get vs C o j h]
 by_cases h1 : j < o
 ·
  rw [if_neg (by omega), List.append_assoc, List.getElem?_append_left (by simp; omega), List.getElem?_take, if_pos h1]
 ·
  by_cases h2 : j < o + vs.length
  ·
   rw [if_pos (by omega), List.append_assoc, List.getElem?_append_right (by simp; omega), List.getElem?_append_left (by simp; omega)]
   congr 1
   simp
   omega
  ·
   rw [if_neg (by omega), List.append_assoc, List.getElem?_append_right (by simp; omega), List.getElem?_append_right (by simp; omega), List.getElem?_drop]
   congr 1
   simp
   omega
theorem flat_set {z : Nat} {e' : List PV} : ∀ {l : List (List PV)} {i q : Nat}, (∀ e ∈ l, e.length = z) → e'.length = z → i < l.length → (l.set i e').flatten[q]? = if i * z ≤ q ∧ q < i * z + z then e'[q - i * z]? else l.flatten[q]?
 | [], i, q, _, _, h => by simp at h
 | x :: l, 0, q, hz, he, _ => by
  have hx := hz x (by simp)
  simp only [List.set_cons_zero, List.flatten_cons, Nat.zero_mul, Nat.zero_add, Nat.sub_zero, Nat.zero_le, true_and]
  by_cases h : q < z
  ·
   rw [if_pos h, List.getElem?_append_left (by omega)]
  ·
   rw [if_neg h, List.getElem?_append_right (by omega), List.getElem?_append_right (by omega), he, hx]
 | x :: l, i + 1, q, hz, he, hi => by
  have hx := hz x (by simp)
  simp only [List.set_cons_succ, List.flatten_cons]
  by_cases h : q < z
  ·
   rw [List.getElem?_append_left (by omega), List.getElem?_append_left (by omega), if_neg (by rw [Nat.add_mul]; omega)]
  ·
   rw [List.getElem?_append_right (by omega), List.getElem?_append_right (by omega), hx, flat_set (l := l) (fun y hy => hz y (by simp [hy])) he (by simpa using hi)]
   have e1 : (i + 1) * z = i * z + z := by rw [Nat.add_mul]; omega
   rw [e1]
   by_cases h2 : i * z ≤ q - z ∧ q - z < i * z + z
   ·
    rw [if_pos h2, if_pos (by omega)]
    congr 1
    omega
   ·
    rw [if_neg h2, if_neg (by omega)]

theorem storeK_at {t : TypeId} {b o n : Nat} {v : Value} {C : List Value} {K' : Bool → World → Prop} (hz : szOf P t = some (n + 1)) (hn : v.cells.toList.length = n + 1) (hB : Blk w b C) (hle : o + (n + 1) ≤ C.length) (ho : ∀ c ∈ v.cells.toList, oneC c = true) :
  storeK P t (.pointer (some ⟨b, o, none⟩)) v w K' = K' true (setB w b (setL C o v.cells.toList)) := by
 unfold storeK
 have hn' : v.cells.size = n + 1 := by simpa using hn
 simp only [hz, hn', if_true]
 rw [stsK_blk _ _ _ _ hB (by rw [hn]; exact hle) ho, if_neg (by intro e; rw [e] at hn; cases hn)]
theorem setB_self {w : World} {b : Nat} {C : List Value} (h : Blk w b C) : setB w b C = w := by
 obtain ⟨T, h⟩ := h
 unfold setB
 have key : ∀ g, g (.cells C.toArray T (0, 0)) = .cells C.toArray T (0, 0) → w.heap.modify b g = w.heap := fun g hg => by
  apply Array.ext_getElem?
  intro i
  rw [Array.getElem?_modify]
  split
  ·
   rename_i e
   subst e
   rw [h, Option.map_some, hg]
  ·
   rfl
 rw [key _ rfl]
theorem stE_sound {t : TypeId} {u v : V} {a b : Value} {p : Prop} (r : Rel μ Im σ w) (hu : RepV w Im μ u a) (hv : RepV w Im μ v b) (h : stE P t u v σ p) :
  p ∧ ∀ K' : Bool → World → Prop, storeK P t a b w K' = K' true w := by
 unfold stE at h
 split at h
 ·
  rename_i n hz
  obtain ⟨c, hc, hco, h1⟩ := clK_sound hv h
  obtain ⟨hcn, h2⟩ := lenK_sound h1
  have hbn : b.cells.toList.length = n + 1 := by rw [hc.1, hcn]
  unfold sameV at h2
  split at h2
  ·
   rename_i o z i off
   obtain ⟨ob, hob, h3⟩ := obV_sound h2
   cases hu with
   | @ref _ _ _ _ bb m hm =>
    obtain ⟨loc, hl, hO⟩ := r.rep _ ob hob
    rw [hm] at hl
    cases hl
    split at h3
    ·
     rename_i l
     unfold tkK at h3
     split at h3
     ·
      rename_i hle0
      obtain ⟨h4, h5, h6⟩ := h3
      unfold adr at hle0 h4
      obtain ⟨b', C, D, e, hB, ho, hL⟩ := hO
      cases e
      have hCl := hL.1
      have hle : i * z + off + (n + 1) ≤ (C ++ D).length := by rw [List.length_append]; omega
      refine ⟨h6, fun K' => ?_⟩
      rw [storeK_at hz hbn hB hle hco]
      have hs : setL (C ++ D) (i * z + off) b.cells.toList = C ++ D := by
       apply List.ext_getElem?
       intro q
       rw [setL_get _ _ _ _ (by omega)]
       split
       ·
        rename_i hq
        have hq1 : q - (i * z + off) < c.length := by omega
        have hcq : c[q - (i * z + off)]? = l[q]? := by
         rw [← h4, List.getElem?_take, if_pos hq1, List.getElem?_drop]
         congr 1
         omega
        have hu1 : c[q - (i * z + off)]? = some c[q - (i * z + off)] := List.getElem?_eq_getElem hq1
        have hb1 : b.cells.toList[q - (i * z + off)]? = some (b.cells.toList[q - (i * z + off)]'(by omega)) := List.getElem?_eq_getElem (by omega)
        have hC1 : C[q]? = some (C[q]'(by omega)) := List.getElem?_eq_getElem (by omega)
        have hx := hc.2 _ _ _ hu1 hb1
        have hy := hL.2 _ _ _ (hcq ▸ hu1) hC1
        have hl := List.all_eq_true.1 h5 _ (List.getElem_mem hq1)
        rw [hb1, get_l hC1]
        generalize c[q - (i * z + off)] = uu at hx hy hl
        generalize b.cells.toList[q - (i * z + off)]'(by omega) = x1 at hx ⊢
        generalize C[q]'(by omega) = y1 at hy ⊢
        cases uu with
        | lit x =>
         cases hx with
         | lit e1 =>
          cases hy with
          | lit e2 => rfl
        | _ => cases hl
       ·
        rfl
      rw [hs, setB_self hB]
     ·
      exact h3.elim
    ·
     exact h3.elim
  ·
   exact h2.elim
 ·
  exact h.elim
theorem stV_sound {t : TypeId} {u v : V} {a b : Value} {K : KS} (r : Rel μ Im σ w) (hu : RepV w Im μ u a) (hv : RepV w Im μ v b) (h : stV P t u v σ K) :
  ∃ w' σ', Rel μ Im σ' w' ∧ Stp μ Im σ w μ Im σ' w' ∧ K true σ' ∧ ∀ K' : Bool → World → Prop, storeK P t a b w K' = K' true w' := by
 unfold stV at h
 split at h
 ·
  rename_i n hz
  obtain ⟨c, hc, hco, h1⟩ := clK_sound hv h
  obtain ⟨hcn, h2⟩ := lenK_sound h1
  have hbn : b.cells.toList.length = n + 1 := by rw [hc.1, hcn]
  unfold wrV at h2
  split at h2
  ·
   rename_i o z i off
   obtain ⟨ob, hob, h3⟩ := obV_sound h2
   cases hu with
   | @ref _ _ _ _ bb m hm =>
    have hbl : bb ∈ live μ σ := mem_live.2 ⟨o, m, ob, hm, hob⟩
    have mn : ∀ D, Mono μ Im w μ Im (setB w bb D) := fun D => ⟨List.prefix_refl _, fun _ h => h, fun q hq => (setB_ext w bb D).block q (r.im q hq).1 (by
     simp only [List.mem_singleton]
     intro e
     subst e
     exact (r.im q hq).2 hbl)⟩
    obtain ⟨loc, hl, hO⟩ := r.rep _ ob hob
    rw [hm] at hl
    cases hl
    unfold wrO at h3
    split at h3
    ·
     rename_i l
     obtain ⟨h4, h5⟩ := wrK_sound h3
     unfold adr at h4 h5
     obtain ⟨b', C, D, e, hB, ho, hL⟩ := hO
     cases e
     have hCl := hL.1
     have hle : i * z + off + (n + 1) ≤ (C ++ D).length := by rw [List.length_append]; omega
     have hs := setL_eq (C := C) (vs := b.cells.toList) (o := i * z + off) (by omega)
     have hs2 : setL (C ++ D) (i * z + off) b.cells.toList = setL C (i * z + off) b.cells.toList ++ D := by
      rw [setL_eq (by omega), hs, List.take_append_of_le_length (by omega), List.drop_append_of_le_length (by omega)]
      simp only [List.append_assoc]
     have hlen : (setL (C ++ D) (i * z + off) b.cells.toList).length = (C ++ D).length := setL_length _ _ _
     obtain ⟨hr', hs'⟩ := r.upd (ob' := .cells (l.take (i * z + off) ++ c ++ l.drop (i * z + off + c.length))) hob hm (setB_ext w bb (setL (C ++ D) (i * z + off) b.cells.toList)) ⟨bb, setL C (i * z + off) b.cells.toList, D, by rw [← hs2, hlen], by rw [← hs2]; exact setB_heap hB, by rw [hs]; exact write_one ho hco, by
      rw [hs]; exact (hL.write hc).mono (mn _)⟩
     exact ⟨_, _, hr', hs', h5, fun K' => storeK_at hz hbn hB hle hco⟩
    ·
     rename_i z' l
     split at h3
     ·
      rename_i e
      subst e
      obtain ⟨hz', hO⟩ := hO
      rcases hO with ⟨e, _⟩ | ⟨b', C, e, hB, hl, hr⟩
      ·
       cases e
      ·
       cases e
       obtain ⟨el, hel, h4⟩ := atK_sound h3
       obtain ⟨ps, hps, hpr, h5⟩ := pvsK_sound hc h4
       obtain ⟨h6, h7⟩ := wrK_sound h5
       have hez := hz' el (List.mem_of_getElem? hel)
       have hil := get_lt hel
       have hle1 : i * z' + z' ≤ l.length * z' := by rw [← Nat.succ_mul]; exact Nat.mul_le_mul_right z' hil
       have hle : i * z' + off + (n + 1) ≤ C.length := by omega
       have hlen : (setL C (i * z' + off) b.cells.toList).length = C.length := setL_length _ _ _
       have hel' : (el.take off ++ ps ++ el.drop (off + ps.length)).length = z' := by simp; omega
       obtain ⟨hr', hs'⟩ := r.upd (ob' := .row z' (l.set i (el.take off ++ ps ++ el.drop (off + ps.length)))) hob hm (setB_ext w bb (setL C (i * z' + off) b.cells.toList)) ⟨fun x hx => by
         rcases List.mem_or_eq_of_mem_set hx with h | h
         ·
          exact hz' x h
         ·
          rw [h]; exact hel', .inr ⟨bb, setL C (i * z' + off) b.cells.toList, by rw [hlen], setB_heap hB, by rw [hlen]; simpa using hl, fun q x p hx hp => by
         rw [setL_get _ _ _ _ (by omega)] at hx
         rw [flat_set hz' hel' hil] at hp
         split at hp
         ·
          rename_i hq
          split at hx
          ·
           rename_i hq2
           rw [List.append_assoc, List.getElem?_append_right (by simp; omega), List.getElem?_append_left (by simp; omega)] at hp
           refine (hpr (q - (i * z' + off)) x p hx ?_).mono (mn _)
           rw [← hp]
           congr 1
           simp
           omega
          ·
           rename_i hq2
           refine (hr q x p hx ?_).mono (mn _)
           have e1 : q = i * z' + (q - i * z') := by omega
           rw [e1, flat_get hz' hel (by omega), ← hp]
           by_cases h8 : q - i * z' < off
           ·
            rw [List.append_assoc, List.getElem?_append_left (by simp; omega), List.getElem?_take, if_pos h8]
           ·
            rw [List.append_assoc, List.getElem?_append_right (by simp; omega), List.getElem?_append_right (by simp; omega), List.getElem?_drop]
            congr 1
            simp
            omega
         ·
          rename_i hq
          rw [if_neg (by omega)] at hx
          exact (hr q x p hx hp).mono (mn _)⟩⟩
       exact ⟨_, _, hr', hs', h7, fun K' => storeK_at hz hbn hB hle hco⟩
     ·
      exact h3.elim
    ·
     exact h3.elim
  ·
   exact h2.elim
 ·
  exact h.elim

structure Reads (w : World) (Im : Nat → Prop) (z : Nat) (m : List (List PV)) (a : Option Addr) (C : List Value) : Prop where
 row : Row w a C
 len : C.length = m.length * z
 one : ∀ c ∈ C, oneC c = true
 siz : ∀ e ∈ m, e.length = z
 rep : ∀ (i : Nat) c p, C[i]? = some c → m.flatten[i]? = some p → RepP w Im p c
theorem rowK_sound {u : V} {a : Value} {z : Nat} {G : List (List PV) → Prop} (r : Rel μ Im σ w) (hu : RepV w Im μ u a) (h : rowK u σ z G) : ∃ m ad cap C, a = .slice ad m.length cap ∧ Reads w Im z m ad C ∧ G m := by
 unfold rowK at h
 split at h
 ·
  split at h
  ·
   rename_i e
   subst e
   cases hu with
   | row hp => cases hp with
    | row hl hc hz hR hI hn ho hr => subst hl; exact ⟨_, _, _, _, rfl, ⟨hR, hn, ho, hz, hr⟩, h⟩
  ·
   exact h.elim
 ·
  split at h
  ·
   rename_i e
   subst e
   cases hu with
   | xrow hp => cases hp with
    | row hl hc hz hR hI hn ho hr => subst hl; exact ⟨_, _, _, _, rfl, ⟨hR, hn, ho, hz, hr⟩, h⟩
  ·
   exact h.elim
 ·
  cases hu
  exact ⟨[], none, 0, [], rfl, ⟨Row.nil _ _, by simp, by simp, by simp, by simp⟩, h⟩
 ·
  split at h
  ·
   rename_i o z' off len e
   subst e
   obtain ⟨ob, hob, h1⟩ := obV_sound h
   unfold rowO at h1
   split at h1
   ·
    rename_i z'' l
    split at h1
    ·
     rename_i hz
     obtain ⟨rfl, hle⟩ := hz
     cases hu with
     | @sl _ _ _ _ cap ad hs =>
      obtain ⟨hlc, hs⟩ := hs
      obtain ⟨loc, hloc, hz, hO⟩ := r.rep _ _ hob
      rw [hloc] at hs
      have hmz : ∀ e ∈ (l.drop off).take len, e.length = z'' := fun e he => hz e (List.mem_of_mem_drop (List.mem_of_mem_take he))
      have hml : ((l.drop off).take len).length = len := by simp; omega
      rcases hO with ⟨rfl, rfl⟩ | ⟨b, C, rfl, hB, hCl, hr⟩
      ·
       obtain ⟨rfl, rfl, rfl, rfl⟩ := hs
       exact ⟨[], none, 0, [], rfl, ⟨Row.nil _ _, by simp, by simp, by simp, by simp⟩, by simpa using h1⟩
      ·
       obtain ⟨ha, hn⟩ := hs
       have hflat : ((l.drop off).take len).flatten = (l.flatten.drop (off * z'')).take (len * z'') := by
        rw [flat_take len (fun e he => hz e (List.mem_of_mem_drop he)), flat_drop off hz]
       have hlz : off * z'' + len * z'' ≤ C.length := by
        rw [← Nat.add_mul]
        exact Nat.le_trans (Nat.mul_le_mul_right z'' hle) hCl
       have hrep : ∀ (i : Nat) c p, ((C.drop (off * z'')).take (len * z''))[i]? = some c → ((l.drop off).take len).flatten[i]? = some p → RepP w Im p c := fun i c p hc hp => by
        rw [hflat, List.getElem?_take] at hp
        rw [List.getElem?_take] at hc
        split at hc
        ·
         rw [if_pos ‹_›] at hp
         rw [List.getElem?_drop] at hc hp
         exact hr _ c p hc hp
        ·
         cases hc
       refine ⟨(l.drop off).take len, ad, cap, (C.drop (off * z'')).take (len * z''), by rw [hml], ⟨?_, by rw [hml, List.length_take, List.length_drop]; omega, ?_, hmz, hrep⟩, h1⟩
       ·
        refine ⟨fun hpos => ?_, fun i hi => ?_⟩
        ·
         have : 0 < len := by
          rcases Nat.eq_zero_or_pos len with h0 | h0
          ·
           subst h0; simp at hpos
          ·
           exact h0
         rw [ha (.inl this)]
         rfl
        ·
         have : 0 < len := by
          rcases Nat.eq_zero_or_pos len with h0 | h0
          ·
           subst h0; simp at hi
          ·
           exact h0
         rw [ha (.inl this), ab_some, ao_some]
         refine hB.cell ?_
         rw [List.getElem_take, List.getElem_drop]
         exact List.getElem?_eq_getElem _
       ·
        intro c hc
        obtain ⟨j, hj, hje⟩ := List.mem_iff_getElem.1 hc
        have hfl := flat_len hmz
        have hp : ((l.drop off).take len).flatten[j]? = some (((l.drop off).take len).flatten[j]'(by rw [hfl, hml]; simp at hj; omega)) := List.getElem?_eq_getElem _
        exact (hrep j c _ (by rw [← hje]; exact List.getElem?_eq_getElem _) hp).one
    ·
     exact h1.elim
   ·
    exact h1.elim
  ·
   exact h.elim
 ·
  exact h.elim

theorem newO_sound {ob : Ob} {K : Nat → St → Prop} (r : Rel μ Im σ w) {C : List Value} {t : TypeId} (ho : RepO (w.alloc (.cells C.toArray t)) Im (μ ++ [some (w.heap.size, C.length)]) (some (w.heap.size, C.length)) ob) (h : newO σ ob K) :
  ∃ σ' μ', Rel μ' Im σ' (w.alloc (.cells C.toArray t)) ∧ Stp μ Im σ w μ' Im σ' (w.alloc (.cells C.toArray t)) ∧ μ'[σ.length]? = some (some (w.heap.size, C.length)) ∧ K σ.length σ' := by
 obtain ⟨h1, h2⟩ := r.add (w' := w.alloc (.cells C.toArray t)) ((Ext.refl [] w).alloc _) (fun b n e => by cases e; exact Nat.le_refl _) ho
 exact ⟨_, _, h1, h2, by rw [get_snoc, if_neg (by rw [r.len]; omega), if_pos r.len.symm], h⟩
theorem mono_alloc (r : Rel μ Im σ w) (o : Obj) (x : Option (Nat × Nat)) : Mono μ Im w (μ ++ [x]) Im (w.alloc o) :=
 ⟨List.prefix_append _ _, fun _ h => h, fun b hb => heap_alloc_lt _ _ _ (r.im b hb).1⟩
theorem alcV_sound {e : Bool} {t : TypeId} {K : KV} (r : Rel μ Im σ w) (h : alcV P t σ K) : Runs e μ Im σ w K fun k => allocK P t w k := by
 intro k hk
 unfold alcV at h
 cases hz : zeOf P t with
 | none => rw [hz] at h; exact h.elim
 | some C =>
  rw [hz] at h
  obtain ⟨h1, h2⟩ := allOne_iff.1 h
  obtain ⟨σ', μ', e1, e2, e3, e4⟩ := newO_sound (t := t) (ob := .cells (C.map V.lit)) r (C := C) (RepO.cells0 rfl (Blk.new _ _ _) (all_mem h1) (RepL.lits h1)) h2
  rw [allocK_of hz]
  have e5 := RepV.ref (w := w.alloc (.cells C.toArray t)) (Im := Im) (z := 0) (i := 0) (off := 0) e3
  simp only [Nat.zero_mul, Nat.zero_add] at e5
  exact hk _ _ _ _ _ _ e1 e2 (fun _ => (Ext.refl [] w).alloc _) e5 e4
theorem boxV_sound {e : Bool} {t : TypeId} {u : V} {a : Value} {K : KV} (r : Rel μ Im σ w) (hu : RepV w Im μ u a) (h : boxV u σ K) : Runs e μ Im σ w K fun k => boxK P t a w k := by
 intro k hk
 obtain ⟨c, hc, hco, h1⟩ := clK_sound hu h
 obtain ⟨σ', μ', e1, e2, e3, e4⟩ := newO_sound (t := t) (ob := .cells c) r (C := a.cells.toList) (RepO.cells0 rfl (Blk.new _ _ _) hco (hc.mono (mono_alloc r _ _))) h1
 have e5 := RepV.ref (w := w.alloc (.cells a.cells.toList.toArray t)) (Im := Im) (z := 0) (i := 0) (off := 0) e3
 simp only [Nat.zero_mul, Nat.zero_add] at e5
 rw [boxK_eq]
 rw [Array.toArray_toList] at e1 e2 e5
 exact hk _ _ _ _ _ _ e1 e2 (fun _ => (Ext.refl [] w).alloc _) e5 e4
theorem prt_sound {z : Nat} : ∀ {js : List Nat} {us : List V} {vs : List Value} {j : Nat} {D : List Value} {n : Nat} {G : List (List PV) → Prop}, js.length = us.length → RepL w Im μ us vs → D.length = n → j * z ≤ n → prtK z j (js.zip us) G → (j + us.length) * z = n →
  ∃ l C, l.length = us.length ∧ (∀ e ∈ l, e.length = z) ∧ C.length = us.length * z ∧ (∀ (i : Nat) c p, C[i]? = some c → l.flatten[i]? = some p → RepP w Im p c) ∧ (∀ c ∈ C, oneC c = true) ∧ Instr.fill (fun i => some (i * z, z)) D.toArray (js.zip vs) = some (D.take (j * z) ++ C).toArray ∧ G l
 | [], [], vs, j, D, n, G, _, hr, hD, hj, h, hn => by
  have : vs = [] := List.length_eq_zero_iff.1 (by simpa using hr.1)
  subst this
  refine ⟨[], [], rfl, by simp, by simp, by simp, by simp, ?_, h⟩
  simp only [List.zip_nil_right, Instr.fill, List.append_nil]
  rw [List.take_of_length_le (by simp at hn; omega)]
 | [], u :: us, _, _, _, _, _, h, _, _, _, _, _ => by simp at h
 | j' :: js, [], _, _, _, _, _, h, _, _, _, _, _ => by simp at h
 | j' :: js, u :: us, vs, j, D, n, G, hjs, hr, hD, hj, h, hn => by
  obtain ⟨v, vs, rfl, h1, h2⟩ := hr.uncons
  simp only [List.zip_cons_cons, prtK] at h
  split at h
  ·
   rename_i e
   subst e
   obtain ⟨c, h3, h4, h5⟩ := clK_sound h1 h
   obtain ⟨h6, h7⟩ := lenK_sound h5
   obtain ⟨ps, h8, h9, h10⟩ := pvsK_sound h3 h7
   have hvz : v.cells.toList.length = z := by rw [h3.1, h6]
   have hsz : (j' + 1) * z = j' * z + z := by rw [Nat.add_mul]; omega
   have hn1 : (j' + 1 + us.length) * z = n := by
    rw [← hn]
    congr 1
    simp
    omega
   have hle : (j' + 1) * z ≤ n := by
    rw [← hn1]
    exact Nat.mul_le_mul_right z (by omega)
   have hD' : (D.take (j' * z) ++ v.cells.toList ++ D.drop (j' * z + v.cells.toList.length)).length = n := by simp at hvz ⊢; omega
   obtain ⟨l, C, e1, e2, e3, e4, e5, e6, e7⟩ := prt_sound (js := js) (D := D.take (j' * z) ++ v.cells.toList ++ D.drop (j' * z + v.cells.toList.length)) (by simpa using hjs) h2 hD' hle h10 hn1
   have hps : ps.length = z := by rw [h8, h6]
   refine ⟨ps :: l, v.cells.toList ++ C, by simp [e1], fun x hx => ?_, ?_, fun i x p hx hp => ?_, fun x hx => ?_, ?_, e7⟩
   ·
    rcases List.mem_cons.1 hx with rfl | hx
    ·
     exact hps
    ·
     exact e2 x hx
   ·
    rw [List.length_append, hvz, e3, List.length_cons, Nat.add_mul]; omega
   ·
    simp only [List.flatten_cons] at hp
    by_cases hi : i < z
    ·
     rw [List.getElem?_append_left (by omega)] at hx hp
     exact h9 i x p hx hp
    ·
     rw [List.getElem?_append_right (by omega)] at hx hp
     rw [hvz] at hx
     rw [hps] at hp
     exact e4 _ x p hx hp
   ·
    rcases List.mem_append.1 hx with hx | hx
    ·
     exact h4 x hx
    ·
     exact e5 x hx
   ·
    simp only [List.zip_cons_cons, Instr.fill]
    rw [if_neg (by simp at hvz ⊢; omega)]
    have hf := fold_set (j' * z) v.cells.toList 0 D (by omega)
    rw [← Array.foldl_toList, Array.toList_zipIdx]
    simp only [Nat.add_zero] at hf
    rw [hf, e6]
    congr 2
    rw [hsz, List.append_assoc, List.take_append, List.take_of_length_le (by simp; omega), List.append_assoc]
    congr 1
    rw [List.take_append, List.take_of_length_le (by simp at hvz ⊢; omega)]
    simp at hvz ⊢
    omega
  ·
   exact h.elim
theorem bslV_sound {e : Bool} {t : TypeId} {n : Nat} {js : List Nat} {us : List V} {vs : List Value} {K : KV} (r : Rel μ Im σ w) (hj : js.length = us.length) (hr : RepL w Im μ us vs) (h : bslV P t n (js.zip us) σ K) : Runs e μ Im σ w K fun k => bslK P t n (js.zip vs) w k := by
 intro k hk
 unfold bslV at h
 split at h
 ·
  rename_i et z hel
  obtain ⟨ht, hz⟩ := elOf_spec hel
  split at h
  ·
   rename_i hc
   obtain ⟨hze, hz0, hn⟩ := hc
   have hze' := hze
   unfold zeOf at hze
   obtain ⟨Z, hZ⟩ := Option.isSome_iff_exists.1 hze
   cases hzz : (P.info? et).bind (·.zero) with
   | none => rw [hzz] at hZ; cases hZ
   | some zv =>
    have key : ∀ (D : Array Value), D.size = n * z → ∃ l C, Instr.fill (fun i => some (i * z, z)) D (js.zip vs) = some (C : List Value).toArray ∧ RepO (w.alloc (.cells C.toArray et)) Im (μ ++ [some (w.heap.size, C.length)]) (some (w.heap.size, C.length)) (.row z l) ∧ newO σ (.row z l) (fun o σ' => K true (.sl o z 0 n) σ') ∧ C.length = n * z := by
     intro D hD
     have hlen : us.length = n := by
      have aux : ∀ (js : List Nat) (us : List V) (j : Nat) (G : List (List PV) → Prop), js.length = us.length → prtK z j (js.zip us) G → ∃ l : List (List PV), l.length = us.length ∧ G l := by
       intro js
       induction js with
       | nil => intro us j G h1 h2; have : us = [] := List.length_eq_zero_iff.1 (by simpa using h1.symm); subst this; exact ⟨[], rfl, h2⟩
       | cons a js ih =>
        intro us j G h1 h2
        cases us with
        | nil => simp at h1
        | cons u us =>
         simp only [List.zip_cons_cons, prtK] at h2
         split at h2
         ·
          have aux2 : ∀ {u : V} {F : List V → Prop}, clK u F → ∃ l, F l := by
           intro u F h
           unfold clK at h
           split at h
           ·
            exact ⟨_, h⟩
           ·
            exact h.elim
           ·
            exact ⟨_, h⟩
          obtain ⟨c, h3⟩ := aux2 h2
          obtain ⟨_, h4⟩ := lenK_sound h3
          have aux3 : ∀ {c : List V} {F : List PV → Prop}, pvsK c F → ∃ l, F l := by
           intro c
           induction c with
           | nil => intro F h; exact ⟨_, h⟩
           | cons u c ih =>
            intro F h
            simp only [pvsK] at h
            unfold pvK at h
            split at h
            ·
             exact (ih h).elim fun _ h => ⟨_, h⟩
            ·
             exact (ih h).elim fun _ h => ⟨_, h⟩
            ·
             exact (ih h).elim fun _ h => ⟨_, h⟩
            ·
             exact (ih h).elim fun _ h => ⟨_, h⟩
            ·
             exact h.elim
          obtain ⟨ps, h5⟩ := aux3 h4
          obtain ⟨l, h6, h7⟩ := ih us (j + 1) _ (by simpa using h1) h5
          exact ⟨ps :: l, by simp [h6], h7⟩
         ·
          exact h2.elim
      obtain ⟨l, h1, h2⟩ := aux js us 0 _ hj h
      obtain ⟨h3, _⟩ := lenK_sound h2
      omega
     obtain ⟨l, C, e1, e2, e3, e4, e5, e6, e7⟩ := prt_sound (n := n * z) (D := D.toList) hj hr (by simpa using hD) (by simp) h (by rw [hlen, Nat.zero_add])
     obtain ⟨_, e8⟩ := lenK_sound e7
     simp only [Nat.zero_mul, List.take_zero, List.nil_append, Array.toArray_toList] at e6
     exact ⟨l, C, e6, ⟨e2, .inr ⟨_, C, rfl, Blk.new _ _ _, by rw [e3, e1]; exact Nat.le_refl _, fun i c p hc hp => (e4 i c p hc hp).mono (mono_alloc r _ (some (w.heap.size, C.length)))⟩⟩, e8, by rw [e3, hlen]⟩
    unfold bslK runK Instr.buildSlice
    rw [Sem.run_bind, run_underlying ht, Result.andThen_ok]
    simp only [Sem.run_bind, Go.Eng.run_sizeOf hz, Result.andThen_ok]
    rw [if_neg (by omega)]
    have fin : ∀ (Z : Array Value), resK ((do
      let some cells := Instr.fill (fun i => some (i * z, z)) ((Array.range (n * z)).map (Z[· % Z.size]!)) (js.zip vs).toArray.toList | stuck "buildSlice: a part of the wrong size"
      pure (.slice (some (← newRow et cells)) n n) : Sem Value).run P w) (k true) := by
     intro Z
     obtain ⟨l, C, f1, f2, f3, f4⟩ := key ((Array.range (n * z)).map (Z[· % Z.size]!)) (by simp)
     obtain ⟨σ', μ', e1, e2, e3, e4⟩ := newO_sound (t := et) r f2 f3
     have f1' : Instr.fill (fun i => some (i * z, z)) ((Array.range (n * z)).map (Z[· % Z.size]!)) (js.zip vs).toArray.toList = some C.toArray := f1
     rw [f1']
     have e5 : RepV (w.alloc (.cells C.toArray et)) Im μ' (.sl σ.length z 0 n) (.slice (some ⟨w.heap.size, 0, none⟩) n n) := .sl ⟨Nat.le_refl _, by rw [e3]; exact ⟨fun _ => by simp, by simp [f4]⟩⟩
     exact hk _ _ _ _ _ _ e1 e2 (fun _ => (Ext.refl [] w).alloc _) e5 e4
    by_cases h0 : n * z = 0
    ·
     rw [if_pos h0]
     simp only [pure_bind]
     exact fin #[]
    ·
     rw [if_neg h0]
     simp only [Sem.run_bind, run_zero hzz, Result.andThen_ok, pure_bind, bind_assoc]
     exact fin _
  ·
   exact h.elim
 ·
  exact h.elim
end
end Go.Vx
