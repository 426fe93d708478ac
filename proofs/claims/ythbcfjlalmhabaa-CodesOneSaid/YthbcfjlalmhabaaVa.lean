import Derived.Test.YthbcfjlalmhabaaHeld
import Derived.Test.YthbcfjlalmhabaaFct
/-! Values without addresses: what registers and blocks hold, told by numbers of blocks of the call's own and by lists that nobody changes any more; and what it is for a world to be as told. -/
namespace Go.Vx
open Go.Eng
set_option linter.unusedSimpArgs false
set_option linter.unusedVariables false

/-- A cell that leads to nothing that anybody may change. -/
inductive PV where
  | lit (v : Value)
  | row (z : Nat) (l : List (List PV))

/-- What a register holds: a plain value; a slice that nobody changes (elements of z cells); one with no room behind; a pointer into block o (element i of z cells, cell off); a slice of block o; a pointer into a slice that nobody changes; cells; several values; a function with what it caught. -/
inductive V where
  | lit (v : Value)
  | row (z : Nat) (l : List (List PV))
  | xrow (z : Nat) (l : List (List PV))
  | ref (o z i off : Nat)
  | sl (o z off len : Nat)
  | rref (z : Nat) (l : List (List PV)) (i off : Nat)
  | agg (l : List V)
  | tup (l : List V)
  | clo (f : Nat) (c : List V)

/-- A block of the call's own: a variable, or the elements of a slice. -/
inductive Ob where
  | cells (l : List V)
  | row (z : Nat) (l : List (List PV))

def V.ofP : PV → V
  | .lit v => .lit v
  | .row z l => .row z l

abbrev St := List (Option Ob)
abbrev Vg := List (Nat × V)
abbrev Mu := List (Option (Nat × Nat))

inductive RepP (w : World) (Im : Nat → Prop) : PV → Value → Prop where
  | lit {v : Value} (h : oneC v = true) : RepP w Im (.lit v) v
  | row {z len cap : Nat} {l : List (List PV)} {a : Option Addr} {C : List Value} (hl : len = l.length) (hc : len ≤ cap) (hz : ∀ e ∈ l, e.length = z) (hR : Row w a C) (hI : C ≠ [] → Im (ab a)) (hn : C.length = len * z)
      (ho : ∀ c ∈ C, oneC c = true) (hr : ∀ (i : Nat) c p, C[i]? = some c → l.flatten[i]? = some p → RepP w Im p c) : RepP w Im (.row z l) (.slice a len cap)

/-- A slice of a block of the call's own: what its address may be. -/
def SlOk (loc : Option (Option (Nat × Nat))) (z off len : Nat) (a : Option Addr) (cap : Nat) : Prop :=
  len ≤ cap ∧ match loc with
    | some none => a = none ∧ len = 0 ∧ cap = 0 ∧ off = 0
    | some (some (b, n)) => (0 < len ∨ off = 0 → a = some ⟨b, off * z, none⟩) ∧ off * z + cap * z ≤ n
    | none => False

inductive RepV (w : World) (Im : Nat → Prop) (μ : Mu) : V → Value → Prop where
  | lit {v : Value} (h : oneC v = true) : RepV w Im μ (.lit v) v
  | row {z : Nat} {l : List (List PV)} {v : Value} (h : RepP w Im (.row z l) v) : RepV w Im μ (.row z l) v
  | xrow {z len : Nat} {l : List (List PV)} {a : Option Addr} (h : RepP w Im (.row z l) (.slice a len len)) : RepV w Im μ (.xrow z l) (.slice a len len)
  | ref {o z i off b n : Nat} (h : μ[o]? = some (some (b, n))) : RepV w Im μ (.ref o z i off) (.pointer (some ⟨b, i * z + off, none⟩))
  | sl {o z off len cap : Nat} {a : Option Addr} (h : SlOk μ[o]? z off len a cap) : RepV w Im μ (.sl o z off len) (.slice a len cap)
  | rref {z i off : Nat} {l : List (List PV)} {a : Option Addr} {C : List Value} (hz : ∀ e ∈ l, e.length = z) (hR : Row w a C) (hI : C ≠ [] → Im (ab a)) (hn : C.length = l.length * z)
      (ho : ∀ c ∈ C, oneC c = true) (hr : ∀ (i : Nat) c p, C[i]? = some c → l.flatten[i]? = some p → RepP w Im p c) : RepV w Im μ (.rref z l i off) (.pointer (some ⟨ab a, ao a + i * z + off, none⟩))
  | agg {l : List V} {C : List Value} (hn : C.length = l.length) (ho : ∀ c ∈ C, oneC c = true) (h : ∀ (i : Nat) u c, l[i]? = some u → C[i]? = some c → RepV w Im μ u c) : RepV w Im μ (.agg l) (.agg C.toArray)
  | tup {l : List V} {C : List Value} (hn : C.length = l.length) (h : ∀ (i : Nat) u c, l[i]? = some u → C[i]? = some c → RepV w Im μ u c) : RepV w Im μ (.tup l) (.tuple C.toArray)
  | clo {f : Nat} {l : List V} {C : List Value} (hn : C.length = l.length) (h : ∀ (i : Nat) u c, l[i]? = some u → C[i]? = some c → RepV w Im μ u c) : RepV w Im μ (.clo f l) (.func (.func f) #[] C.toArray)

/-- Values, one for one. -/
def RepL (w : World) (Im : Nat → Prop) (μ : Mu) (l : List V) (C : List Value) : Prop :=
  C.length = l.length ∧ ∀ (i : Nat) u c, l[i]? = some u → C[i]? = some c → RepV w Im μ u c
def RepPs (w : World) (Im : Nat → Prop) (l : List PV) (C : List Value) : Prop :=
  C.length = l.length ∧ ∀ (i : Nat) c p, C[i]? = some c → l[i]? = some p → RepP w Im p c

def RepO (w : World) (Im : Nat → Prop) (μ : Mu) (loc : Option (Nat × Nat)) : Ob → Prop
  | .cells l => ∃ b C, loc = some (b, C.length) ∧ Blk w b C ∧ (∀ c ∈ C, oneC c = true) ∧ RepL w Im μ l C
  | .row z l => (∀ e ∈ l, e.length = z) ∧ ((loc = none ∧ l = []) ∨ ∃ b C, loc = some (b, C.length) ∧ Blk w b C ∧ l.length * z ≤ C.length ∧ ∀ (i : Nat) c p, C[i]? = some c → l.flatten[i]? = some p → RepP w Im p c)

/-- The blocks that are the call's own. -/
def live (μ : Mu) (σ : St) : List Nat := (μ.zip σ).filterMap fun
  | (some (b, _), some _) => some b
  | _ => none

theorem mem_live {μ : Mu} {σ : St} {b : Nat} : b ∈ live μ σ ↔ ∃ (o n : Nat) (ob : Ob), μ[o]? = some (some (b, n)) ∧ σ[o]? = some (some ob) := by
  unfold live
  rw [List.mem_filterMap]
  constructor
  · rintro ⟨⟨m, s⟩, hm, he⟩
    obtain ⟨o, ho, hoe⟩ := List.mem_iff_getElem.1 hm
    rw [List.getElem_zip] at hoe
    injection hoe with h1 h2
    rw [List.length_zip] at ho
    match m, s, he with
    | some (b', n), some ob, he =>
      simp at he
      subst he
      exact ⟨o, n, ob, by rw [← h1]; exact List.getElem?_eq_getElem (by omega), by rw [← h2]; exact List.getElem?_eq_getElem (by omega)⟩
  · rintro ⟨o, n, ob, h1, h2⟩
    refine ⟨(some (b, n), some ob), ?_, rfl⟩
    have l1 := (List.getElem?_eq_some_iff.1 h1)
    have l2 := (List.getElem?_eq_some_iff.1 h2)
    obtain ⟨l1, e1⟩ := l1
    obtain ⟨l2, e2⟩ := l2
    refine List.mem_iff_getElem.2 ⟨o, by rw [List.length_zip]; omega, ?_⟩
    rw [List.getElem_zip, e1, e2]

structure Rel (μ : Mu) (Im : Nat → Prop) (σ : St) (w : World) : Prop where
  len : μ.length = σ.length
  rep : ∀ (o : Nat) ob, σ[o]? = some (some ob) → ∃ loc, μ[o]? = some loc ∧ RepO w Im μ loc ob
  inj : ∀ (o o' : Nat) ob ob' b n n', σ[o]? = some (some ob) → σ[o']? = some (some ob') → μ[o]? = some (some (b, n)) → μ[o']? = some (some (b, n')) → o = o'
  im : ∀ b, Im b → b < w.heap.size ∧ b ∉ live μ σ

structure Stp (μ : Mu) (Im : Nat → Prop) (σ : St) (w : World) (μ' : Mu) (Im' : Nat → Prop) (σ' : St) (w' : World) : Prop where
  pre : μ <+: μ'
  im : ∀ b, Im b → Im' b
  ext : Ext (live μ σ) w w'
  live : ∀ b ∈ live μ' σ', b ∈ live μ σ ∨ w.heap.size ≤ b
  fresh : ∀ b, Im' b → Im b ∨ b ∈ Vx.live μ σ ∨ w.heap.size ≤ b

theorem Stp.refl (μ : Mu) (Im : Nat → Prop) (σ : St) (w : World) : Stp μ Im σ w μ Im σ w :=
  ⟨List.prefix_refl _, fun _ h => h, Ext.refl _ _, fun _ h => .inl h, fun _ h => .inl h⟩
theorem Stp.trans {μ μ' μ'' : Mu} {Im Im' Im'' : Nat → Prop} {σ σ' σ'' : St} {w w' w'' : World} (h : Stp μ Im σ w μ' Im' σ' w') (k : Stp μ' Im' σ' w' μ'' Im'' σ'' w'') : Stp μ Im σ w μ'' Im'' σ'' w'' := by
  have hz := h.ext.size
  refine ⟨h.pre.trans k.pre, fun b hb => k.im b (h.im b hb), h.ext.trans k.ext h.live, fun b hb => ?_, fun b hb => ?_⟩
  · rcases k.live b hb with h1 | h1
    · exact h.live b h1
    · exact .inr (by omega)
  · rcases k.fresh b hb with h1 | h1 | h1
    · exact h.fresh b h1
    · rcases h.live b h1 with h2 | h2
      · exact .inr (.inl h2)
      · exact .inr (.inr h2)
    · exact .inr (.inr (by omega))

/-- What Stp leaves to old facts. -/
structure Mono (μ : Mu) (Im : Nat → Prop) (w : World) (μ' : Mu) (Im' : Nat → Prop) (w' : World) : Prop where
  pre : μ <+: μ'
  im : ∀ b, Im b → Im' b
  blk : ∀ b, Im b → w'.heap[b]? = w.heap[b]?
theorem Stp.mono {μ μ' : Mu} {Im Im' : Nat → Prop} {σ σ' : St} {w w' : World} (h : Stp μ Im σ w μ' Im' σ' w') (r : Rel μ Im σ w) : Mono μ Im w μ' Im' w' :=
  ⟨h.pre, h.im, fun b hb => h.ext.block b (r.im b hb).1 (r.im b hb).2⟩

theorem Row.mono {μ μ' : Mu} {Im Im' : Nat → Prop} {w w' : World} (m : Mono μ Im w μ' Im' w') {a : Option Addr} {C : List Value} (h : Row w a C) (hI : C ≠ [] → Im (ab a)) : Row w' a C := by
  refine ⟨h.1, fun i hi => ?_⟩
  have hne : C ≠ [] := fun e => by subst e; simp at hi
  have := h.2 i hi
  unfold World.cell? at *
  rw [m.blk _ (hI hne)]
  exact this
theorem RepP.mono {μ μ' : Mu} {Im Im' : Nat → Prop} {w w' : World} (m : Mono μ Im w μ' Im' w') {p : PV} {v : Value} (h : RepP w Im p v) : RepP w' Im' p v := by
  induction h with
  | lit h => exact .lit h
  | row hl hc hz hR hI hn ho hr ih => exact .row hl hc hz (Row.mono m hR hI) (fun h => m.im _ (hI h)) hn ho ih
theorem pre_get {μ μ' : Mu} (h : μ <+: μ') {o : Nat} {x : Option (Nat × Nat)} (hx : μ[o]? = some x) : μ'[o]? = some x := by
  obtain ⟨t, rfl⟩ := h
  rw [List.getElem?_append_left (List.getElem?_eq_some_iff.1 hx).1]
  exact hx
theorem SlOk.some {μ : Mu} {o z off len cap : Nat} {a : Option Addr} (h : SlOk μ[o]? z off len a cap) : ∃ x, μ[o]? = .some x := by
  obtain ⟨_, h⟩ := h
  cases hx : μ[o]? with
  | none => rw [hx] at h; exact h.elim
  | some x => exact ⟨x, rfl⟩
theorem RepV.mono {μ μ' : Mu} {Im Im' : Nat → Prop} {w w' : World} (m : Mono μ Im w μ' Im' w') {u : V} {v : Value} (h : RepV w Im μ u v) : RepV w' Im' μ' u v := by
  induction h with
  | lit h => exact .lit h
  | row h => exact .row (h.mono m)
  | xrow h => exact .xrow (h.mono m)
  | ref h => exact .ref (pre_get m.pre h)
  | sl h =>
    obtain ⟨x, hx⟩ := h.some
    refine .sl ?_
    rw [pre_get m.pre hx]
    rw [hx] at h
    exact h
  | rref hz hR hI hn ho hr => exact .rref hz (Row.mono m hR hI) (fun h => m.im _ (hI h)) hn ho (fun i c p h1 h2 => (hr i c p h1 h2).mono m)
  | agg hn ho _ ih => exact .agg hn ho ih
  | tup hn _ ih => exact .tup hn ih
  | clo hn _ ih => exact .clo hn ih
theorem RepL.mono {μ μ' : Mu} {Im Im' : Nat → Prop} {w w' : World} (m : Mono μ Im w μ' Im' w') {l : List V} {C : List Value} (h : RepL w Im μ l C) : RepL w' Im' μ' l C :=
  ⟨h.1, fun i u c h1 h2 => (h.2 i u c h1 h2).mono m⟩
/-- Blocks of the call's own that weren't touched. -/
theorem RepO.mono {μ μ' : Mu} {Im Im' : Nat → Prop} {w w' : World} (m : Mono μ Im w μ' Im' w') {loc : Option (Nat × Nat)} {ob : Ob} (h : RepO w Im μ loc ob) (hb : ∀ b n, loc = some (b, n) → w'.heap[b]? = w.heap[b]?) : RepO w' Im' μ' loc ob := by
  cases ob with
  | cells l =>
    obtain ⟨b, C, rfl, ⟨T, hB⟩, ho, hl⟩ := h
    exact ⟨b, C, rfl, ⟨T, by rw [hb b _ rfl]; exact hB⟩, ho, hl.mono m⟩
  | row z l =>
    obtain ⟨hz, h⟩ := h
    refine ⟨hz, ?_⟩
    rcases h with h | ⟨b, C, rfl, ⟨T, hB⟩, hl, hr⟩
    · exact .inl h
    · exact .inr ⟨b, C, rfl, ⟨T, by rw [hb b _ rfl]; exact hB⟩, hl, fun i c p h1 h2 => (hr i c p h1 h2).mono m⟩
theorem RepO.blk {Im : Nat → Prop} {w : World} {μ : Mu} {b n : Nat} {ob : Ob} (h : RepO w Im μ (some (b, n)) ob) : ∃ C, C.length = n ∧ Blk w b C := by
  cases ob with
  | cells l =>
    obtain ⟨b', C, e, hB, ho, _⟩ := h
    cases e
    exact ⟨C, rfl, hB⟩
  | row z l =>
    obtain ⟨_, h⟩ := h
    rcases h with ⟨h, _⟩ | ⟨b', C, e, hB, _, _⟩
    · cases h
    · cases e
      exact ⟨C, rfl, hB⟩
theorem Rel.lt {μ : Mu} {Im : Nat → Prop} {σ : St} {w : World} (r : Rel μ Im σ w) {b : Nat} (h : b ∈ live μ σ) : b < w.heap.size := by
  obtain ⟨o, n, ob, h1, h2⟩ := mem_live.1 h
  obtain ⟨loc, h3, h4⟩ := r.rep o ob h2
  rw [h1] at h3
  cases h3
  obtain ⟨C, _, hB⟩ := h4.blk
  exact hB.lt

/-! ### Registers -/
def fdV : Vg → Nat → Option V
  | [], _ => none
  | (s, v) :: r, t => match Nat.beq s t with | true => some v | false => fdV r t
theorem fdV_cons (s t : Nat) (v : V) (r : Vg) : fdV ((s, v) :: r) t = if s = t then some v else fdV r t := by
  unfold fdV
  by_cases h : s = t
  · subst h
    rw [Nat.beq_refl, if_pos rfl]
  · rw [if_neg h]
    have : Nat.beq s t = false := by
      cases hb : Nat.beq s t with
      | true => exact absurd (Nat.eq_of_beq_eq_true hb) h
      | false => rfl
    rw [this]
    cases r <;> rfl
def RepG (w : World) (Im : Nat → Prop) (μ : Mu) (ρ : Vg) (ρc : Rg) : Prop := ∀ t u, fdV ρ t = some u → ∃ v, fd ρc t = some v ∧ RepV w Im μ u v
theorem RepG.mono {μ μ' : Mu} {Im Im' : Nat → Prop} {w w' : World} (m : Mono μ Im w μ' Im' w') {ρ : Vg} {ρc : Rg} (h : RepG w Im μ ρ ρc) : RepG w' Im' μ' ρ ρc := fun t u hu => by
  obtain ⟨v, h1, h2⟩ := h t u hu
  exact ⟨v, h1, h2.mono m⟩
theorem RepG.cons {w : World} {Im : Nat → Prop} {μ : Mu} {ρ : Vg} {ρc : Rg} (h : RepG w Im μ ρ ρc) (t : Nat) {u : V} {v : Value} (hv : RepV w Im μ u v) : RepG w Im μ ((t, u) :: ρ) ((t, v) :: ρc) := fun s x hx => by
  rw [fdV_cons] at hx
  rw [fd_cons]
  split at hx
  · cases hx; exact ⟨v, by simp [*], hv⟩
  · rename_i hne
    obtain ⟨y, h1, h2⟩ := h s x hx
    exact ⟨y, by rw [if_neg hne]; exact h1, h2⟩
end Go.Vx
