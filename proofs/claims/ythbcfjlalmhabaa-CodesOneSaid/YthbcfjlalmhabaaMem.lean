import Derived.Test.YthbcfjlalmhabaaRules
/-! The engine's rules on types and loops: general forms, from which the facts on a program's own types are made. -/
namespace Go.Eng
set_option linter.unusedSimpArgs false
set_option linter.unusedVariables false
section
variable {P : Program} {w : World} {k : Kv} {t s e : TypeId} {i kd : IntKind} {a : Int}

theorem cvtK_of (hs : (P.underlying s).isSome = true) (ht : P.underlying t = some (.int kd)) : cvtK P s t (.int i a) w k = k true (.int kd (kd.wrap a)) w := by
  obtain ⟨d, hd⟩ := Option.isSome_iff_exists.1 hs
  unfold cvtK runK convert
  rw [Sem.run_bind, run_underlying hd, Result.andThen_ok, Sem.run_bind, run_underlying ht, Result.andThen_ok]
  rfl

theorem idxK_slice {b o len cap z : Nat} (ht : P.underlying t = some (.slice e)) (hz : (P.info? e).map (·.size) = some z) (h : 0 ≤ a ∧ a < len) :
    idxK P t (.slice (some ⟨b, o, none⟩) len cap) (.int i a) w k = k true (.pointer (some ⟨b, o + a.toNat * z, none⟩)) w := by
  unfold idxK runK Instr.indexAt
  simp only [asIntOf, pure_bind, Sem.run_bind, run_underlying ht, Result.andThen_ok]
  simp only [Sem.run_bind, Sem.run, pure, Result.andThen_ok, if_pos h, run_sizeOf hz, addr_add, resK]

theorem idxK_array {b o n z : Nat} (ht : P.underlying t = some (.array n e)) (hz : (P.info? e).map (·.size) = some z) (h : 0 ≤ a ∧ a < n) :
    idxK P t (.pointer (some ⟨b, o, none⟩)) (.int i a) w k = k true (.pointer (some ⟨b, o + a.toNat * z, none⟩)) w := by
  unfold idxK runK Instr.indexAt
  simp only [asIntOf, pure_bind, Sem.run_bind, run_underlying ht, Result.andThen_ok]
  simp only [Instr.sureAddr, Sem.run_bind, Sem.run, pure, Result.andThen_ok, if_pos h, run_sizeOf hz, addr_add, resK]

theorem loadK_cell {d : TypeDesc} {x : Addr} (ht : P.underlying t = some d) (hd : aggD d = false) : loadK P t (.pointer (some x)) w k = cellK w x fun τ v => k τ v w := by
  simp [loadK, ht, hd]
theorem loadK_agg {d : TypeDesc} {x : Addr} {n : Nat} (ht : P.underlying t = some d) (hd : aggD d = true) (hn : szOf P t = some n) : loadK P t (.pointer (some x)) w k = cellsK w x n fun τ cs => k τ (.agg cs.toArray) w := by
  simp [loadK, ht, hd, hn]
theorem storeK_one {K : Bool → World → Prop} {x : Addr} {v : Value} (hz : szOf P t = some 1) (hv : oneC v = true) : storeK P t (.pointer (some x)) v w K = stK w x v K := by
  simp [storeK, hz, cells_one hv, stsK]
  rfl
theorem storeK_agg {K : Bool → World → Prop} {x : Addr} {c : List Value} {z : Nat} (hz : szOf P t = some z) (hc : c.length = z) : storeK P t (.pointer (some x)) (.agg c.toArray) w K = stsK w x c K := by
  simp [storeK, hz, Value.cells, hc]

/-- An element of a slice: its address. -/
theorem Row.idx {w : World} {c : Option Addr} {cs : List Value} {len cap z m : Nat} (h : Row w c cs) (hl : cs.length = len * z) (hz : 0 < z) (ht : P.underlying t = some (.slice e)) (hs : szOf P e = some z) (hm : m < len) (w' : World) :
    idxK P t (.slice c len cap) (.int i (m : Int)) w' k = k true (.pointer (some ⟨ab c, ao c + m * z, none⟩)) w' := by
  have h0 : 0 < cs.length := by rw [hl]; exact Nat.mul_pos (by omega) hz
  have ha := h.1 h0
  rw [ha, ab_some, ao_some]
  rw [idxK_slice ht hs (by omega)]
  simp

theorem bltK_len_slice {x : Option Addr} {n c : Nat} {cs : Array Bool} {ty : TypeId} (ht : P.underlying t = some (.slice e)) : bltK P .len #[t] ty cs [.slice x n c] w k = k true (.int .i64 n) w := by
  unfold bltK nextK runK builtin Builtin.len_
  simp only [Sem.run_bind, List.getElem?_toArray, List.getElem?_cons_zero]
  simp only [run_underlying ht, Result.andThen_ok]
  rfl
end

/-! ### Loops -/
def NextK {X : Type} (st : X → Rg) (inv : X → World → Prop) (m : X → Nat) (x : X) (ρ : Rg) (w : World) : Prop := ∃ x', Sub (st x') ρ ∧ inv x' w ∧ m x' < m x
theorem NextK_of {X : Type} {st : X → Rg} {inv : X → World → Prop} {m : X → Nat} {x : X} {ρ : Rg} {w : World} (x' : X) (hs : Sub (st x') ρ) (hi : inv x' w) (hm : m x' < m x) : NextK st inv m x ρ w := ⟨x', hs, hi, hm⟩

theorem LoopK_of {X : Type} {body : Rg → World → Post → Prop} {ρ : Rg} {w : World} {Q : Post} (st : X → Rg) (inv : X → World → Prop) (m : X → Nat) (x₀ : X) (hs : Sub (st x₀) ρ) (hi : inv x₀ w)
    (round : ∀ x w, inv x w → body (st x) w (thenQ (fun _ => NextK st inv m x) Q)) : LoopK body ρ w Q := by
  refine ⟨fun c ρ w => ∃ x, c = m x ∧ ρ = st x ∧ inv x w, ⟨_, _, hs, x₀, rfl, rfl, hi⟩, ?_⟩
  rintro c ρ w ⟨x, rfl, rfl, hx⟩
  have := round x w hx
  have e : (thenQ (fun _ => NextK st inv m x) Q) = thenQ (fun _ ρ' w' => ∃ m' ρ₀, m' < m x ∧ Sub ρ₀ ρ' ∧ ∃ y, m' = m y ∧ ρ₀ = st y ∧ inv y w') Q := by
    funext τ e ρ w
    cases e with
    | normal =>
      refine propext ⟨?_, ?_⟩
      · rintro ⟨x', h1, h2, h3⟩; exact ⟨_, _, h3, h1, x', rfl, rfl, h2⟩
      · rintro ⟨_, _, h3, h1, x', rfl, rfl, h2⟩; exact ⟨x', h1, h2, h3⟩
    | _ => rfl
  rw [← e]
  exact this

theorem sub_nil (ρ : Rg) : Sub [] ρ := fun _ _ h => by cases h
theorem sub_cons {ρ r : Rg} {t : Nat} {v u : Value} (h : fd ρ t = some u) (e : u = v) (hr : Sub r ρ) : Sub ((t, v) :: r) ρ := fun s x hx => by
  rw [fd_cons] at hx
  split at hx
  · rename_i e'; subst e'; cases hx; rw [← e]; exact h
  · exact hr s x hx
theorem int_eq {k : IntKind} {a b : Int} (h : a = b) : Value.int k a = Value.int k b := by rw [h]
theorem bool_eq {a b : Bool} (h : a = b) : Value.bool a = Value.bool b := by rw [h]
end Go.Eng
