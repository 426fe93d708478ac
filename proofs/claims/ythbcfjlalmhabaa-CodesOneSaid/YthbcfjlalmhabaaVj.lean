import Derived.Test.YthbcfjlalmhabaaVi
/-! Code. -/
namespace Go.Vx
open Go.Eng
set_option linter.unusedSimpArgs false
set_option linter.unusedVariables false

abbrev KR := Bool → Vg → St → Prop
abbrev PostV := Bool → Exit → Vg → St → Prop

def gdV (g : V) (want : Bool) (A B : Bool → Prop) : Prop := match g with
  | .lit (.bool b) => if b = want then A true else B true
  | .tup [] => B true
  | _ => False
def cdV (v : V) (A B : Bool → Prop) : Prop := match v with
  | .lit (.bool b) => (b = true → A true) ∧ (b = false → B true)
  | _ => False
def putV (ρ : Vg) (d : Option Tmp) (v : V) : Vg := match d with
  | some d => (d, v) :: ρ
  | none => ρ
def opsV (τ : Bool) (P : Program) (all : Array Oper) : List Oper → Vg → St → KR → Prop
  | [], ρ, σ, K => K true ρ σ
  | o :: r, ρ, σ, K =>
    match o.guard with
    | none => opV τ false P o ρ σ fun τ v σ' => opsV τ P all r (putV ρ o.dst v) σ' K
    | some (j, want) =>
      match (all[j]?).bind (·.dst) with
      | some t => lkV ρ t fun g => gdV g want (fun τ => opV τ false P o ρ σ fun τ v σ' => opsV τ P all r (putV ρ o.dst v) σ' K) (fun τ => opsV τ P all r (putV ρ o.dst (.tup [])) σ K)
      | none => False
/-- What reads alone. -/
def mldV (τ : Bool) (P : Program) (o : Oper) (ρ : Vg) (σ : St) (F : FV) : Prop := match o.op with
  | .load t x => evV ρ x fun u => ldV P t u σ F
  | _ => valV τ P o ρ F
def runV (τ : Bool) (P : Program) (o : Oper) (ρ : Vg) (σ : St) (tag : Nat) (k : KV) : Prop := match tag with
  | 0 => mldV τ P o ρ σ fun τ v => k τ v σ
  | 1 => opV τ true P o ρ σ k
  | _ => opV τ false P o ρ σ k
def stepV (τ : Bool) (P : Program) (all : Array Oper) (o : Oper) (ρ : Vg) (σ : St) (tag : Nat) (K : KR) : Prop :=
  match o.guard with
  | none => runV τ P o ρ σ tag fun τ v σ' => K τ (putV ρ o.dst v) σ'
  | some (j, want) =>
    match (all[j]?).bind (·.dst) with
    | some t => lkV ρ t fun g => gdV g want (fun τ => runV τ P o ρ σ tag fun τ v σ' => K τ (putV ρ o.dst v) σ') (fun τ => K τ (putV ρ o.dst (.tup [])) σ)
    | none => False
def hldV (τ : Bool) (P : Program) (all : Array Oper) : List (Nat × Nat) → Vg → St → KR → Prop
  | [], ρ, σ, K => K true ρ σ
  | (i, t) :: r, ρ, σ, K => nthK all.toList i fun o => stepV τ P all o ρ σ t fun τ ρ' σ' => hldV τ P all r ρ' σ' K
def thenV (K : KR) (Q : PostV) : PostV := fun τ e ρ σ => match e with
  | .normal => K τ ρ σ
  | e => Q τ e ρ σ
def blockV (id : Nat) (Q : PostV) : PostV := fun τ e ρ σ => match e with
  | .exit i => if i = id then Q τ .normal ρ σ else Q τ (.exit i) ρ σ
  | e => Q τ e ρ σ
/-- A loop, by what holds at its head; k: so many blocks are the callers'. -/
def LoopV (k : Nat) (body : Vg → St → PostV → Prop) (ρ : Vg) (σ : St) (Q : PostV) : Prop :=
  ∃ I : Nat → Vg → St → Prop, (∃ m π ρ₀ σ₀, Emb k π ρ₀ σ₀ ρ σ ∧ I m ρ₀ σ₀) ∧
    ∀ m ρ σ, I m ρ σ → body ρ σ (thenV (fun _ ρ' σ' => ∃ m' π ρ₀ σ₀, m' < m ∧ Emb k π ρ₀ σ₀ ρ' σ' ∧ I m' ρ₀ σ₀) Q)
abbrev Plans := Nat → List (Nat × Nat)
def denV (τ : Bool) (P : Program) (k : Nat) (pl : Plans) : Code → Vg → St → PostV → Prop
  | .skip, ρ, σ, Q => Q true .normal ρ σ
  | .region id ops draw, ρ, σ, Q => bif draw then hldV τ P ops (pl id) ρ σ fun τ => Q τ .normal else opsV τ P ops ops.toList ρ σ fun τ => Q τ .normal
  | .seq a b, ρ, σ, Q => denV τ P k pl a ρ σ (thenV (fun τ ρ' σ' => denV τ P k pl b ρ' σ' Q) Q)
  | .cond c a b, ρ, σ, Q => evV ρ c fun v => cdV v (fun τ => denV τ P k pl a ρ σ Q) (fun τ => denV τ P k pl b ρ σ Q)
  | .block id c, ρ, σ, Q => denV τ P k pl c ρ σ (blockV id Q)
  | .loop c, ρ, σ, Q => LoopV k (denV true P k pl c) ρ σ Q
  | .exit id, ρ, σ, Q => Q true (.exit id) ρ σ
  | .ret, ρ, σ, Q => Q true .ret ρ σ
  | _, _, _, _ => False
/-- The code's regions have plans, and its registers a place. -/
def chk (n : Nat) (pl : Plans) : Code → Bool
  | .region id ops draw => (ops.toList.all fun o => o.dst.all (· < n)) && (!draw || (Region.noSelect ops && (ops.size == (pl id).length) && schedB .any ops (fun j => (pl id).any fun p => p.1 == j && p.2 == 2) (Array.replicate ops.size false) (pl id)))
  | .seq a b => chk n pl a && chk n pl b
  | .cond _ a b => chk n pl a && chk n pl b
  | .block _ c => chk n pl c
  | .loop c => chk n pl c
  | _ => true

structure Stq (k : Nat) (μ : Mu) (Im : Nat → Prop) (σ : St) (w : World) (μ' : Mu) (Im' : Nat → Prop) (σ' : St) (w' : World) : Prop where
  pre : ∀ i, i < k → μ'[i]? = μ[i]?
  im : ∀ b, Im b → Im' b
  ext : Ext (live μ σ) w w'
  live : ∀ b ∈ live μ' σ', b ∈ live μ σ ∨ w.heap.size ≤ b
  fresh : ∀ b, Im' b → Im b ∨ b ∈ Vx.live μ σ ∨ w.heap.size ≤ b
theorem Stp.toq {k : Nat} {μ μ' : Mu} {Im Im' : Nat → Prop} {σ σ' : St} {w w' : World} (h : Stp μ Im σ w μ' Im' σ' w') (hk : k ≤ μ.length) : Stq k μ Im σ w μ' Im' σ' w' :=
  ⟨fun i hi => by
    obtain ⟨t, e⟩ := h.pre
    rw [← e, List.getElem?_append_left (by omega)], h.im, h.ext, h.live, h.fresh⟩
theorem Stq.trans {k : Nat} {μ μ' μ'' : Mu} {Im Im' Im'' : Nat → Prop} {σ σ' σ'' : St} {w w' w'' : World} (h : Stq k μ Im σ w μ' Im' σ' w') (j : Stq k μ' Im' σ' w' μ'' Im'' σ'' w'') : Stq k μ Im σ w μ'' Im'' σ'' w'' := by
  have hz := h.ext.size
  refine ⟨fun i hi => by rw [j.pre i hi, h.pre i hi], fun b hb => j.im b (h.im b hb), h.ext.trans j.ext h.live, fun b hb => ?_, fun b hb => ?_⟩
  · rcases j.live b hb with h1 | h1
    · exact h.live b h1
    · exact .inr (by omega)
  · rcases j.fresh b hb with h1 | h1 | h1
    · exact h.fresh b h1
    · rcases h.live b h1 with h2 | h2
      · exact .inr (.inl h2)
      · exact .inr (.inr h2)
    · exact .inr (.inr (by omega))

section
variable {P : Program} {k n : Nat} {pl : Plans}

/-- What holds of registers behind. -/
def TrK (k : Nat) (μ : Mu) (Im : Nat → Prop) (σ : St) (w : World) (K : KR) (Kc : Kr) : Prop :=
  ∀ ρ' σ' μ' Im' w' ρc, Rel μ' Im' σ' w' → Stq k μ Im σ w μ' Im' σ' w' → RepG w' Im' μ' ρ' ρc → k ≤ μ'.length → K true ρ' σ' → Kc true ρc w'
def TrQ (k : Nat) (μ : Mu) (Im : Nat → Prop) (σ : St) (w : World) (Q : PostV) (Qc : Post) : Prop :=
  ∀ e ρ' σ' μ' Im' w' ρc, Rel μ' Im' σ' w' → Stq k μ Im σ w μ' Im' σ' w' → RepG w' Im' μ' ρ' ρc → k ≤ μ'.length → Q true e ρ' σ' → Qc true e ρc w'
theorem Stp.len {μ μ' : Mu} {Im Im' : Nat → Prop} {σ σ' : St} {w w' : World} (h : Stp μ Im σ w μ' Im' σ' w') : μ.length ≤ μ'.length := h.pre.length_le
theorem RepG.put {w : World} {Im : Nat → Prop} {μ : Mu} {ρ : Vg} {ρc : Rg} (h : RepG w Im μ ρ ρc) (d : Option Tmp) {u : V} {v : Value} (hv : RepV w Im μ u v) : RepG w Im μ (putV ρ d u) (put ρc d v) := by
  cases d with
  | none => exact h
  | some d => exact h.cons d hv
theorem rep_undef {w : World} {Im : Nat → Prop} {μ : Mu} : RepV w Im μ (.tup []) undef := .tup (C := []) rfl (fun i u c h => by simp at h)
theorem gdV_sound {w : World} {Im : Nat → Prop} {μ : Mu} {g : V} {v : Value} {want : Bool} {A B A' B' : Bool → Prop} (hg : RepV w Im μ g v) (h : gdV g want A B) (hA : A true → A' true) (hB : B true → B' true) : gdK v want A' B' := by
  unfold gdV at h
  split at h
  · cases hg
    unfold gdK
    split at h
    · rename_i hb; show (if _ = want then _ else _); rw [if_pos hb]; exact hA h
    · rename_i hb; show (if _ = want then _ else _); rw [if_neg hb]; exact hB h
  · cases hg with
    | @tup _ C hn _ =>
      have : C = [] := List.length_eq_zero_iff.1 hn
      subst this
      exact hB h
  · exact h.elim
theorem ops_sound {all : Array Oper} {K : KR} {Kc : Kr} : ∀ (l : List Oper) (τ : Bool) (ρ : Vg) (σ : St) (μ : Mu) (Im : Nat → Prop) (w : World) (ρc : Rg), k ≤ μ.length → Rel μ Im σ w → RepG w Im μ ρ ρc → TrK k μ Im σ w K Kc → opsV τ P all l ρ σ K → opsK true P all l ρc w Kc
  | [], τ, ρ, σ, μ, Im, w, ρc, hk, r, hg, tr, h => tr ρ σ μ Im w ρc r ((Stp.refl _ _ _ _).toq hk) hg hk h
  | o :: l, τ, ρ, σ, μ, Im, w, ρc, hk, r, hg, tr, h => by
    have run : ∀ {τ τ' : Bool}, opV τ false P o ρ σ (fun τ v σ' => opsV τ P all l (putV ρ o.dst v) σ' K) → opK true P o ρc w fun τ v w' => opsK τ P all l (put ρc o.dst v) w' Kc := fun {τ τ'} h' => by
      refine opV_sound r hg h' (fun τ v w' => opsK τ P all l (put ρc o.dst v) w' Kc) fun v w' u σ' μ' Im' r' s' _ hv hK => ?_
      have hk' : k ≤ μ'.length := Nat.le_trans hk s'.len
      exact ops_sound l true _ σ' μ' Im' w' _ hk' r' ((hg.mono (s'.mono r)).put _ hv) (fun ρ'' σ'' μ'' Im'' w'' ρc' r'' s'' => tr ρ'' σ'' μ'' Im'' w'' ρc' r'' ((s'.toq hk).trans s'')) hK
    unfold opsV at h
    unfold opsK
    cases hgd : o.guard with
    | none =>
      rw [hgd] at h
      exact run (τ' := true) h
    | some jw =>
      obtain ⟨j, want⟩ := jw
      rw [hgd] at h
      simp only at h ⊢
      cases ht : (all[j]?).bind (·.dst) with
      | none => rw [ht] at h; exact h.elim
      | some t =>
        rw [ht] at h
        simp only at h ⊢
        obtain ⟨g, gv, h1, h2, h3⟩ := lkV_sound hg h
        rw [h3]
        exact gdV_sound h1 h2 (fun h => run (τ' := true) h) (fun h => ops_sound l true _ σ μ Im w _ hk r (hg.put _ rep_undef) tr h)

theorem mldV_sound {τ : Bool} {o : Oper} {ρ : Vg} {σ : St} {F : FV} {μ : Mu} {Im : Nat → Prop} {w : World} {ρc : Rg} {kk : Bool → Value → Prop} (r : Rel μ Im σ w) (hg : RepG w Im μ ρ ρc) (h : mldV τ P o ρ σ F) (hk : ∀ u v, RepV w Im μ u v → F true u → kk true v) : mldK true P o ρc w kk := by
  obtain ⟨d, op, ty, pos, af, g⟩ := o
  have val : valV τ P ⟨d, op, ty, pos, af, g⟩ ρ F → ∃ v, kk true v ∧ ∀ w' (k : Kv), opK true P ⟨d, op, ty, pos, af, g⟩ ρc w' k = k true v w' := fun h => by
    obtain ⟨u, v, h1, h2, h3⟩ := valV_sound hg h
    exact ⟨v, hk u v h1 h2, h3⟩
  have any : valV τ P ⟨d, op, ty, pos, af, g⟩ ρ F → anyE w (fun w' v => opK true P ⟨d, op, ty, pos, af, g⟩ ρc w' fun _ u w'' => w'' = w' ∧ u = v) kk := fun h => by
    obtain ⟨v, h1, h2⟩ := val h
    exact ⟨v, fun w' _ => by dsimp only; rw [h2]; exact ⟨rfl, rfl⟩, h1⟩
  unfold mldV at h
  cases op with
  | load t x =>
    obtain ⟨u, a, h1, h2, h3⟩ := evV_sound hg h
    show evK ρc x fun a => loadK P t a w fun τ v _ => kk τ v
    rw [h3]
    obtain ⟨u', v', h4, h5, h6⟩ := ldV_sound r h1 h2
    rw [h6]
    exact hk u' v' h4 h5
  | move x =>
    obtain ⟨u, a, h1, h2, h3⟩ := evV_sound hg (h : evV ρ x fun u => F true u)
    show evK ρc x fun v => kk true v
    rw [h3]
    exact hk u a h1 h2
  | assign x =>
    obtain ⟨u, a, h1, h2, h3⟩ := evV_sound hg (h : evV ρ x fun u => F true u)
    show evK ρc x fun v => kk true v
    rw [h3]
    exact hk u a h1 h2
  | pick => exact any h
  | binOp => exact any h
  | unOp => exact any h
  | convert => exact any h
  | slice => exact any h
  | fieldAddr => exact any h
  | field => exact any h
  | indexAddr => exact any h
  | index => exact any h
  | extract => exact any h
  | nilCheck => exact any h
  | _ => exact (h : False).elim
theorem hld_soundV {all : Array Oper} {K : KR} {Kc : Kr} : ∀ (S : List (Nat × Nat)) (τ : Bool) (ρ : Vg) (σ : St) (μ : Mu) (Im : Nat → Prop) (w : World) (ρc : Rg), k ≤ μ.length → Rel μ Im σ w → RepG w Im μ ρ ρc → TrK k μ Im σ w K Kc → hldV τ P all S ρ σ K → hldK true P all S ρc w Kc
  | [], τ, ρ, σ, μ, Im, w, ρc, hk, r, hg, tr, h => tr ρ σ μ Im w ρc r ((Stp.refl _ _ _ _).toq hk) hg hk h
  | (i, t) :: S, τ, ρ, σ, μ, Im, w, ρc, hk, r, hg, tr, h => by
    obtain ⟨o, ho, h⟩ := nthK_get (F := fun o => stepV τ P all o ρ σ t fun τ ρ' σ' => hldV τ P all S ρ' σ' K) h
    have nth : ∀ (l : List Oper) (i : Nat) (F : Oper → Prop), l[i]? = some o → F o → nthK l i F := by
      intro l
      induction l with
      | nil => intro i F h; simp at h
      | cons x l ih =>
        intro i F h hF
        cases i with
        | zero => simp at h; subst h; exact hF
        | succ i => exact ih i F (by simpa using h) hF
    refine nth _ _ _ ho ?_
    have next : ∀ {v : Value} {w' : World} {u : V} {σ' : St} {μ' : Mu} {Im' : Nat → Prop}, Rel μ' Im' σ' w' → Stp μ Im σ w μ' Im' σ' w' → RepV w' Im' μ' u v → hldV true P all S (putV ρ o.dst u) σ' K → hldK true P all S (put ρc o.dst v) w' Kc := fun {v w' u σ' μ' Im'} r' s' hv hK =>
      hld_soundV S true _ σ' μ' Im' w' _ (Nat.le_trans hk s'.len) r' ((hg.mono (s'.mono r)).put _ hv) (fun ρ'' σ'' μ'' Im'' w'' ρc' r'' s'' => tr ρ'' σ'' μ'' Im'' w'' ρc' r'' ((s'.toq hk).trans s'')) hK
    have run : ∀ {τ : Bool}, runV τ P o ρ σ t (fun τ v σ' => hldV τ P all S (putV ρ o.dst v) σ' K) → Eng.runT true P o ρc w t fun τ v w' => hldK τ P all S (put ρc o.dst v) w' Kc := fun {τ} h' => by
      unfold runV at h'
      unfold Eng.runT
      split at h'
      · exact mldV_sound r hg h' fun u v hv hK => next r (Stp.refl _ _ _ _) hv hK
      · exact opV_sound r hg h' (fun τ v w' => Ext [] w w' ∧ hldK τ P all S (put ρc o.dst v) w' Kc) fun v w' u σ' μ' Im' r' s' he hv hK => ⟨he rfl, next r' s' hv hK⟩
      · rename_i h0 h1
        have e : ∀ {A B C : Prop}, (match t with | 0 => A | 1 => B | _ => C) = C := by
          intro A B C
          match t, h0, h1 with
          | 0, h0, _ => exact absurd rfl h0
          | 1, _, h1 => exact absurd rfl h1
          | n + 2, _, _ => rfl
        split
        · exact absurd rfl h0
        · exact absurd rfl h1
        · exact opV_sound r hg h' (fun τ v w' => hldK τ P all S (put ρc o.dst v) w' Kc) fun v w' u σ' μ' Im' r' s' _ hv hK => next r' s' hv hK
    unfold stepV at h
    unfold stepK
    cases hgd : o.guard with
    | none =>
      rw [hgd] at h
      exact run h
    | some jw =>
      obtain ⟨j, want⟩ := jw
      rw [hgd] at h
      simp only at h ⊢
      cases ht : (all[j]?).bind (·.dst) with
      | none => rw [ht] at h; exact h.elim
      | some t' =>
        rw [ht] at h
        simp only at h ⊢
        obtain ⟨g, gv, h1, h2, h3⟩ := lkV_sound hg h
        rw [h3]
        exact gdV_sound h1 h2 (fun h => run h) (fun h => next r (Stp.refl _ _ _ _) rep_undef h)

/-- What is dropped stays as it is. -/
theorem Emb.part {π : Pi} {ρ₀ ρ : Vg} {σ₀ σ : St} {μ : Mu} {Im : Nat → Prop} {w : World} (h : Emb k π ρ₀ σ₀ ρ σ) (r : Rel μ Im σ w) (hkm : k ≤ μ.length) :
    ∃ Im', Rel (muOf μ π) Im' σ₀ w ∧ Stq k μ Im σ w (muOf μ π) Im' σ₀ w ∧ k ≤ (muOf μ π).length ∧ Frz μ Im σ (okN π) Im' := by
  obtain ⟨h0, hs, hg⟩ := h
  simp only [Bool.and_eq_true] at h0
  obtain ⟨hn, hk⟩ := h0
  have fz : Frz μ Im σ (okN π) fun b => Im b ∨ ∃ (o n : Nat) (ob : Ob), okN π o = true ∧ σ[o]? = some (some ob) ∧ μ[o]? = some (some (b, n)) := ⟨fun b hb => .inl hb, fun o b n ob h1 h2 h3 => .inr ⟨o, n, ob, h1, h2, h3⟩⟩
  obtain ⟨r', hl⟩ := r.part fz (fun j o hj => by
    unfold okN
    simp only [Bool.not_eq_false']
    exact List.contains_iff_mem.2 (List.mem_of_getElem? hj)) hn hs (fun b hb => hb)
  have kf : ∀ i, i < k → π[i]? = some (some i) := fun i hi => by
    have := List.all_eq_true.1 hk i (List.mem_range.2 hi)
    simpa using this
  refine ⟨_, r', ⟨fun i hi => ?_, fun b hb => .inl hb, Ext.refl _ _, fun b hb => .inl (hl b hb), fun b hb => ?_⟩, ?_, fz⟩
  · rw [muOf_some (kf i hi)]
    obtain ⟨hsl, hss⟩ := mSt_spec hs
    rw [List.getElem?_eq_getElem (by omega)]
    rfl
  · rcases hb with h | ⟨o, n, ob, h1, h2, h3⟩
    · exact .inl h
    · exact .inr (.inl (mem_live.2 ⟨o, n, ob, h3, h2⟩))
  · simp only [muOf, List.length_map]
    rcases Nat.lt_or_ge π.length k with h | h
    · have := kf π.length h
      simp at this
    · exact h

theorem lkV_get {w : World} {Im : Nat → Prop} {μ : Mu} {ρ : Vg} {ρc : Rg} {t : Nat} {K : V → Prop} (hg : RepG w Im μ ρ ρc) (h : lkV ρ t K) : ∃ u v, fd ρc t = some v ∧ RepV w Im μ u v ∧ K u := by
  unfold lkV at h
  cases hf : fdV ρ t with
  | none => rw [hf] at h; exact h.elim
  | some u =>
    rw [hf] at h
    obtain ⟨v, h1, h2⟩ := hg t u hf
    exact ⟨u, v, h1, h2, h⟩
theorem Sub.refl (ρ : Rg) : Sub ρ ρ := fun _ _ h => h
/-- **Code.** -/
theorem denV_sound : ∀ (c : Code), chk n pl c = true → ∀ (τ : Bool) (ρ : Vg) (σ : St) (μ : Mu) (Im : Nat → Prop) (w : World) (ρc : Rg) (Q : PostV) (Qc : Post), P.follows .mixedOrders = true → k ≤ μ.length → Rel μ Im σ w → RepG w Im μ ρ ρc → TrQ k μ Im σ w Q Qc → denV τ P k pl c ρ σ Q → den true P n c ρc w Qc
  | .skip, _, τ, ρ, σ, μ, Im, w, ρc, Q, Qc, hm, hk, r, hg, tr, h => tr _ ρ σ μ Im w ρc r ((Stp.refl _ _ _ _).toq hk) hg hk h
  | .region id ops draw, hc, τ, ρ, σ, μ, Im, w, ρc, Q, Qc, hm, hk, r, hg, tr, h => by
    simp only [chk, Bool.and_eq_true] at hc
    cases draw with
    | true =>
      simp only [Bool.not_true, Bool.false_or] at hc
      have hops : ops = ops.toList.toArray := by simp
      show DrawK P n id ops ρc w Qc
      rw [hops]
      refine DrawK_held (pl id) hm (by rw [← hops]; simpa using hc.2) hc.1 ?_
      rw [← hops]
      have mn : Mono μ Im w μ Im w.drew := ⟨List.prefix_refl _, fun _ h => h, fun _ _ => rfl⟩
      have r' : Rel μ Im σ w.drew := ⟨r.len, fun o ob ho => by
        obtain ⟨loc, h1, h2⟩ := r.rep o ob ho
        exact ⟨loc, h1, h2.mono mn fun _ _ _ => rfl⟩, r.inj, r.im⟩
      have s' : Stp μ Im σ w μ Im σ w.drew := ⟨List.prefix_refl _, fun _ h => h, (Ext.refl _ _).drew, fun _ h => .inl h, fun _ h => .inl h⟩
      exact hld_soundV (K := fun τ => Q τ .normal) (Kc := fun τ => Qc τ .normal) (pl id) τ ρ σ μ Im w.drew ρc hk r' (hg.mono mn) (fun ρ' σ' μ' Im' w' ρc' r'' s'' => tr _ ρ' σ' μ' Im' w' ρc' r'' ((s'.toq hk).trans s'')) h
    | false => exact ops_sound (K := fun τ => Q τ .normal) (Kc := fun τ => Qc τ .normal) _ τ ρ σ μ Im w ρc hk r hg (fun ρ' σ' μ' Im' w' ρc' => tr _ ρ' σ' μ' Im' w' ρc') h
  | .seq a b, hc, τ, ρ, σ, μ, Im, w, ρc, Q, Qc, hm, hk, r, hg, tr, h => by
    simp only [chk, Bool.and_eq_true] at hc
    refine denV_sound a hc.1 τ ρ σ μ Im w ρc _ _ hm hk r hg ?_ (h : denV τ P k pl a ρ σ _)
    intro e ρ' σ' μ' Im' w' ρc' r' s' hg' hk' hq
    cases e with
    | normal => exact denV_sound b hc.2 true ρ' σ' μ' Im' w' ρc' Q Qc hm hk' r' hg' (fun e ρ'' σ'' μ'' Im'' w'' ρc'' r'' s'' => tr e ρ'' σ'' μ'' Im'' w'' ρc'' r'' (s'.trans s'')) hq
    | _ => exact tr _ ρ' σ' μ' Im' w' ρc' r' s' hg' hk' hq
  | .cond c a b, hc, τ, ρ, σ, μ, Im, w, ρc, Q, Qc, hm, hk, r, hg, tr, h => by
    simp only [chk, Bool.and_eq_true] at hc
    obtain ⟨u, v, h1, h2, h3⟩ := evV_sound hg (h : evV ρ c _)
    show evK ρc c fun v => cdK v (fun τ => den τ P n a ρc w Qc) (fun τ => den τ P n b ρc w Qc)
    rw [h3]
    unfold cdV at h2
    split at h2
    · cases h1
      exact ⟨fun e => denV_sound a hc.1 true ρ σ μ Im w ρc Q Qc hm hk r hg tr (h2.1 e), fun e => denV_sound b hc.2 true ρ σ μ Im w ρc Q Qc hm hk r hg tr (h2.2 e)⟩
    · exact h2.elim
  | .block id c, hc, τ, ρ, σ, μ, Im, w, ρc, Q, Qc, hm, hk, r, hg, tr, h => by
    refine denV_sound c hc τ ρ σ μ Im w ρc _ _ hm hk r hg ?_ (h : denV τ P k pl c ρ σ _)
    intro e ρ' σ' μ' Im' w' ρc' r' s' hg' hk' hq
    cases e with
    | exit i =>
      simp only [blockV] at hq
      simp only [blockQ]
      split at hq
      · rw [if_pos ‹_›]; exact tr _ ρ' σ' μ' Im' w' ρc' r' s' hg' hk' hq
      · rw [if_neg ‹_›]; exact tr _ ρ' σ' μ' Im' w' ρc' r' s' hg' hk' hq
    | _ => exact tr _ ρ' σ' μ' Im' w' ρc' r' s' hg' hk' hq
  | .loop c, hc, τ, ρ, σ, μ, Im, w, ρc, Q, Qc, hm, hk, r, hg, tr, h => by
    obtain ⟨I, ⟨m₀, π, ρ₀, σ₀, hE, hI⟩, round⟩ := (h : LoopV k (denV true P k pl c) ρ σ Q)
    have enter : ∀ {π : Pi} {ρ₀ ρ : Vg} {σ₀ σ : St} {μ' : Mu} {Im' : Nat → Prop} {w' : World} {ρc' : Rg}, Emb k π ρ₀ σ₀ ρ σ → Rel μ' Im' σ w' → RepG w' Im' μ' ρ ρc' → k ≤ μ'.length →
        ∃ Im'', Rel (muOf μ' π) Im'' σ₀ w' ∧ Stq k μ' Im' σ w' (muOf μ' π) Im'' σ₀ w' ∧ RepG w' Im'' (muOf μ' π) ρ₀ ρc' ∧ k ≤ (muOf μ' π).length := by
      intro π ρ₀ ρ σ₀ σ μ' Im' w' ρc' hE r' hg' hk'
      obtain ⟨Im'', h1, h2, h3, fz⟩ := hE.part r' hk'
      refine ⟨Im'', h1, h2, ?_, h3⟩
      have hG := hE.2.2
      have aux : ∀ (ρ₀ : Vg), mG (okN π) π σ ρ₀ ρ → RepG w' Im'' (muOf μ' π) ρ₀ ρc' := by
        intro ρ₀
        induction ρ₀ with
        | nil => intro _ t u ht; simp [fdV] at ht
        | cons x ρ₀ ih =>
          obtain ⟨s, u⟩ := x
          intro hG t u' ht
          unfold mG at hG
          rw [fdV_cons] at ht
          split at ht
          · rename_i e
            subst e
            cases ht
            obtain ⟨v, vc, h4, h5, h6⟩ := lkV_get hg' hG.1
            exact ⟨_, h4, mV_sound r' fz h6 h5⟩
          · exact ih hG.2 t u' ht
      exact aux ρ₀ hG
    obtain ⟨Im₁, r₁, s₁, g₁, k₁⟩ := enter hE r hg hk
    refine ⟨fun m ρc' w' => ∃ ρ' σ' μ' Im', I m ρ' σ' ∧ Rel μ' Im' σ' w' ∧ Stq k μ Im σ w μ' Im' σ' w' ∧ RepG w' Im' μ' ρ' ρc' ∧ k ≤ μ'.length, ⟨m₀, ρc, Sub.refl _, ρ₀, σ₀, _, Im₁, hI, r₁, s₁, g₁, k₁⟩, ?_⟩
    rintro m ρc' w' ⟨ρ', σ', μ', Im', hI', r', s', g', k'⟩
    refine denV_sound c hc true ρ' σ' μ' Im' w' ρc' _ _ hm k' r' g' ?_ (round m ρ' σ' hI')
    intro e ρ'' σ'' μ'' Im'' w'' ρc'' r'' s'' g'' k'' hq
    cases e with
    | normal =>
      obtain ⟨m', π', ρ₁, σ₁, hlt, hE', hI''⟩ := hq
      obtain ⟨Im₂, r₂, s₂, g₂, k₂⟩ := enter hE' r'' g'' k''
      exact ⟨m', ρc'', hlt, Sub.refl _, ρ₁, σ₁, _, Im₂, hI'', r₂, (s'.trans s'').trans s₂, g₂, k₂⟩
    | _ => exact tr _ ρ'' σ'' μ'' Im'' w'' ρc'' r'' (s'.trans s'') g'' k'' hq
  | .exit id, _, τ, ρ, σ, μ, Im, w, ρc, Q, Qc, hm, hk, r, hg, tr, h => tr _ ρ σ μ Im w ρc r ((Stp.refl _ _ _ _).toq hk) hg hk h
  | .ret, _, τ, ρ, σ, μ, Im, w, ρc, Q, Qc, hm, hk, r, hg, tr, h => tr _ ρ σ μ Im w ρc r ((Stp.refl _ _ _ _).toq hk) hg hk h
  | .rangeFunc .., _, _, _, _, _, _, _, _, _, _, _, _, _, _, _, h => (h : False).elim
  | .scope .., _, _, _, _, _, _, _, _, _, _, _, _, _, _, _, h => (h : False).elim
  | .label .., _, _, _, _, _, _, _, _, _, _, _, _, _, _, _, h => (h : False).elim
  | .goto .., _, _, _, _, _, _, _, _, _, _, _, _, _, _, _, h => (h : False).elim
  | .refuse .., _, _, _, _, _, _, _, _, _, _, _, _, _, _, _, h => (h : False).elim
end
end Go.Vx
