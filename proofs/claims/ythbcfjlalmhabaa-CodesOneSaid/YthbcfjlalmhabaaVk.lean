import Derived.Test.YthbcfjlalmhabaaVj
/-! Functions and calls. -/
namespace Go.Vx
open Go.Eng
set_option linter.unusedSimpArgs false
set_option linter.unusedVariables false

def rgV : Nat → List V → Vg
  | _, [] => []
  | i, v :: r => (i, v) :: rgV (i + 1) r
def resultsV (P : Program) : List ResultVar → Vg → St → (List V → Prop) → Prop
  | [], _, _, K => K []
  | .tmp t :: r, ρ, σ, K => lkV ρ t fun v => resultsV P r ρ σ fun vs => K (v :: vs)
  | .cell t ty :: r, ρ, σ, K => lkV ρ t fun p => ldV P ty p σ fun _ v => resultsV P r ρ σ fun vs => K (v :: vs)
def packU : List V → V
  | [v] => v
  | vs => .tup vs
def retPV (P : Program) (rs : List ResultVar) (R : V → St → Prop) : PostV
  | _, .normal, ρ, σ => resultsV P rs ρ σ fun vs => R (packU vs) σ
  | _, .ret, ρ, σ => resultsV P rs ρ σ fun vs => R (packU vs) σ
  | _, _, _, _ => False
/-- **What a function does**, given values and the blocks that they lead to. -/
def Fn (P : Program) (f : FuncId) (vs : List V) (σ : St) (Q : V → St → Prop) : Prop :=
  (∀ (args : Array Value) (w : World), (callFunc f args).run P w = .ok (.enter f args) w) ∧
  ∀ (μ : Mu) (Im : Nat → Prop) (w : World) (args : List Value), Rel μ Im σ w → RepL w Im μ vs args →
    Rets P f args w fun v w' => ∃ u σ' μ' Im', Rel μ' Im' σ' w' ∧ Stq σ.length μ Im σ w μ' Im' σ' w' ∧ σ.length ≤ μ'.length ∧ RepV w' Im' μ' u v ∧ Q u σ'
/-- One answer alone. -/
def Fn1 (P : Program) (f : FuncId) (vs : List V) (σ : St) (u : V) (s : St) : Prop := Fn P f vs σ fun u' s' => u' = u ∧ s' = s
theorem Fn.mono {P : Program} {f : FuncId} {vs : List V} {σ : St} {Q Q' : V → St → Prop} (h : Fn P f vs σ Q) (hq : ∀ u s, Q u s → Q' u s) : Fn P f vs σ Q' :=
  ⟨h.1, fun μ Im w args r hr => (h.2 μ Im w args r hr).mono fun v w' ⟨u, σ', μ', Im', h1, h2, h3, h4, h5⟩ => ⟨u, σ', μ', Im', h1, h2, h3, h4, hq _ _ h5⟩⟩

section
variable {P : Program}
theorem okC_of_chk {n : Nat} {pl : Plans} : ∀ (c : Code), chk n pl c = true → okC n c = true
  | .region _ ops draw, h => by simp only [chk, Bool.and_eq_true] at h; exact h.1
  | .seq a b, h => by simp only [chk, Bool.and_eq_true] at h; simp only [okC, Bool.and_eq_true]; exact ⟨okC_of_chk a h.1, okC_of_chk b h.2⟩
  | .cond _ a b, h => by simp only [chk, Bool.and_eq_true] at h; simp only [okC, Bool.and_eq_true]; exact ⟨okC_of_chk a h.1, okC_of_chk b h.2⟩
  | .block _ c, h => okC_of_chk c h
  | .loop c, h => okC_of_chk c h
  | .skip, _ => rfl
  | .exit _, _ => rfl
  | .ret, _ => rfl
  | .rangeFunc .., _ => rfl
  | .scope .., _ => rfl
  | .label .., _ => rfl
  | .goto .., _ => rfl
  | .refuse .., _ => rfl
theorem rgV_sound {w : World} {Im : Nat → Prop} {μ : Mu} : ∀ {vs : List V} {args : List Value} (i : Nat), RepL w Im μ vs args → RepG w Im μ (rgV i vs) (rgOf i args)
  | [], _, i, _ => fun t u h => by simp [rgV, fdV] at h
  | v :: vs, args, i, h => by
    obtain ⟨a, args, rfl, h1, h2⟩ := h.uncons
    exact (rgV_sound (i + 1) h2).cons i h1
theorem resultsV_sound {w : World} {Im : Nat → Prop} {μ : Mu} {σ : St} {ρ : Vg} {ρc : Rg} (r : Rel μ Im σ w) (hg : RepG w Im μ ρ ρc) : ∀ {rs : List ResultVar} {K : List V → Prop} {Kc : List Value → Prop}, resultsV P rs ρ σ K → (∀ us vs, RepL w Im μ us vs → K us → Kc vs) → resultsK P rs ρc w Kc
  | [], K, Kc, h, hk => hk [] [] .nil h
  | .tmp t :: rs, K, Kc, h, hk => by
    obtain ⟨u, v, h1, h2, h3⟩ := lkV_sound hg (h : lkV ρ t _)
    show lk ρc t fun v => resultsK P rs ρc w fun vs => Kc (v :: vs)
    rw [h3]
    exact resultsV_sound r hg h2 fun us vs hr hK => hk _ _ (.cons h1 hr) hK
  | .cell t ty :: rs, K, Kc, h, hk => by
    obtain ⟨u, v, h1, h2, h3⟩ := lkV_sound hg (h : lkV ρ t _)
    obtain ⟨u', v', h4, h5, h6⟩ := ldV_sound r h1 h2
    show lk ρc t fun p => loadK P ty p w fun _ v _ => resultsK P rs ρc w fun vs => Kc (v :: vs)
    rw [h3, h6]
    exact resultsV_sound r hg h5 fun us vs hr hK => hk _ _ (.cons h4 hr) hK
theorem packU_sound {w : World} {Im : Nat → Prop} {μ : Mu} {us : List V} {vs : List Value} (h : RepL w Im μ us vs) : RepV w Im μ (packU us) (packV vs) := by
  match us, h with
  | [], h =>
    have : vs = [] := List.length_eq_zero_iff.1 (by simpa using h.1)
    subst this
    exact .tup h.1 h.2
  | [u], h =>
    obtain ⟨v, vs, rfl, h1, h2⟩ := h.uncons
    have : vs = [] := List.length_eq_zero_iff.1 (by simpa using h2.1)
    subst this
    exact h1
  | u :: u' :: us, h =>
    obtain ⟨v, vs, rfl, h1, h2⟩ := h.uncons
    obtain ⟨v', vs, rfl, h3, h4⟩ := h2.uncons
    exact .tup h.1 h.2

/-- What is left at a function's end, told in the caller's way. -/
def EndV (k : Nat) (Q : V → St → Prop) (u : V) (s : St) : Prop := ∃ π u₀ s₀, EmbR k π u₀ s₀ u s ∧ Q u₀ s₀
theorem fn_of {f : FuncId} {fn : Func} {c : Code} {vs : List V} {σ : St} {Q : V → St → Prop} (pl : Plans) (hm : P.follows .mixedOrders = true) (hcf : ∀ (args : Array Value) (w : World), (callFunc f args).run P w = .ok (.enter f args) w)
    (hf : P.funcs[f]? = some fn) (hb : fn.body = some c) (hc : chk fn.ntmps pl c = true) (hs : Nat.ble vs.length fn.ntmps = true) (rs : List ResultVar) (hr : fn.results.toList = rs)
    (h : denV true P σ.length pl c (rgV 0 vs) σ (retPV P rs (EndV σ.length Q))) : Fn P f vs σ Q := by
  refine ⟨hcf, fun μ Im w args r hl => ?_⟩
  refine rets_den hf hb (okC_of_chk c hc) (by rw [hl.1]; exact hs) rs hr ?_
  refine denV_sound c hc true _ σ μ Im w _ _ _ hm (by rw [r.len]; exact Nat.le_refl _) r (rgV_sound 0 hl) ?_ h
  intro e ρ' σ' μ' Im' w' ρc r' s' g' k' hq
  have fin : resultsV P rs ρ' σ' (fun vs => EndV σ.length Q (packU vs) σ') → resultsK P rs ρc w' fun vs => ∃ u σ' μ' Im', Rel μ' Im' σ' w' ∧ Stq σ.length μ Im σ w μ' Im' σ' w' ∧ σ.length ≤ μ'.length ∧ RepV w' Im' μ' u (packV vs) ∧ Q u σ' := fun hq =>
    resultsV_sound r' g' hq fun us vs hus hE => by
      obtain ⟨π, u₀, s₀, ⟨h1, h2, h3⟩, hQ⟩ := hE
      obtain ⟨Im'', q1, q2, q3, fz⟩ := Emb.part (ρ₀ := []) (ρ := []) ⟨h1, h2, trivial⟩ r' k'
      exact ⟨u₀, s₀, _, Im'', q1, s'.trans q2, q3, mV_sound r' fz h3 (packU_sound hus), hQ⟩
  cases e with
  | normal => exact fin hq
  | ret => exact fin hq
  | _ => exact hq.elim

/-! ### calls -/
mutual
def renV (f : Nat → Nat) : V → V
  | .lit v => .lit v
  | .row z l => .row z l
  | .xrow z l => .xrow z l
  | .ref o z i off => .ref (f o) z i off
  | .sl o z off len => .sl (f o) z off len
  | .rref z l i off => .rref z l i off
  | .agg l => .agg (renL f l)
  | .tup l => .tup (renL f l)
  | .clo g l => .clo g (renL f l)
def renL (f : Nat → Nat) : List V → List V
  | [] => []
  | v :: vs => renV f v :: renL f vs
end
def renO (f : Nat → Nat) : Ob → Ob
  | .cells l => .cells (renL f l)
  | .row z l => .row z l
def renX (f : Nat → Nat) : Option Ob → Option Ob
  | none => none
  | some ob => some (renO f ob)
def rnm : List Nat → Nat → Nat → Nat
  | [], n, j => n + j
  | p :: _, _, 0 => p
  | _ :: r, n, j + 1 => rnm r n j
def renS (f : Nat → Nat) : St → St
  | [] => []
  | x :: s => renX f x :: renS f s
def mrg (f : Nat → Nat) : List Nat → St → St → St
  | [], σ, s => σ ++ renS f s
  | p :: π, σ, x :: s => mrg f π (σ.set p (renX f x)) s
  | _ :: _, σ, [] => σ
def kill : List Nat → St → St
  | [], σ => σ
  | o :: F, σ => kill F (σ.set o none)
theorem renL_eq (f : Nat → Nat) : ∀ l : List V, renL f l = l.map (renV f)
  | [] => rfl
  | v :: l => by simp [renL, renL_eq f l]
theorem renS_eq (f : Nat → Nat) : ∀ s : St, renS f s = s.map (renX f)
  | [] => rfl
  | v :: l => by simp [renS, renS_eq f l]
theorem rnm_lt : ∀ {π : List Nat} {n j : Nat} (h : j < π.length), rnm π n j = π[j]
  | [], _, _, h => by simp at h
  | p :: π, n, 0, _ => rfl
  | p :: π, n, j + 1, h => by simpa [rnm] using rnm_lt (π := π) (n := n) (j := j) (by simpa using h)
theorem rnm_ge : ∀ {π : List Nat} {n j : Nat} (h : π.length ≤ j), rnm π n j = n + (j - π.length)
  | [], _, _, _ => by simp [rnm]
  | p :: π, n, 0, h => by simp at h
  | p :: π, n, j + 1, h => by simpa [rnm] using rnm_ge (π := π) (n := n) (j := j) (by simpa using h)
theorem mrg_len {f : Nat → Nat} : ∀ {π : List Nat} {σ s : St}, π.length ≤ s.length → (mrg f π σ s).length = σ.length + (s.length - π.length)
  | [], σ, s, _ => by simp [mrg, renS_eq]
  | p :: π, σ, [], h => by simp at h
  | p :: π, σ, x :: s, h => by rw [mrg, mrg_len (by simpa using h)]; simp
theorem mrg_old {f : Nat → Nat} : ∀ {π : List Nat} {σ s : St} {i : Nat}, π.length ≤ s.length → i < σ.length → i ∉ π → (mrg f π σ s)[i]? = σ[i]?
  | [], σ, s, i, _, hi, _ => by rw [mrg, List.getElem?_append_left hi]
  | p :: π, σ, [], i, h, _, _ => by simp at h
  | p :: π, σ, x :: s, i, h, hi, hn => by
    simp only [List.mem_cons, not_or] at hn
    rw [mrg, mrg_old (by simpa using h) (by simpa using hi) hn.2, List.getElem?_set_ne (fun e => hn.1 e.symm)]
theorem mrg_at {f : Nat → Nat} : ∀ {π : List Nat} {σ s : St} {j p : Nat}, π.length ≤ s.length → π.Nodup → π[j]? = some p → p < σ.length → (mrg f π σ s)[p]? = (s[j]?).map (renX f)
  | [], σ, s, j, p, _, _, h, _ => by simp at h
  | q :: π, σ, [], j, p, h, _, _, _ => by simp at h
  | q :: π, σ, x :: s, 0, p, h, hn, hp, hl => by
    simp only [List.nodup_cons] at hn
    simp at hp
    subst hp
    rw [mrg, mrg_old (by simpa using h) (by simpa using hl) hn.1, List.getElem?_set_self hl]
    rfl
  | q :: π, σ, x :: s, j + 1, p, h, hn, hp, hl => by
    simp only [List.nodup_cons] at hn
    rw [mrg, mrg_at (j := j) (by simpa using h) hn.2 (by simpa using hp) (by simpa using hl)]
    simp
theorem mrg_new {f : Nat → Nat} : ∀ {π : List Nat} {σ s : St} {i : Nat}, π.length ≤ s.length → σ.length ≤ i → (mrg f π σ s)[i]? = (s[π.length + (i - σ.length)]?).map (renX f)
  | [], σ, s, i, _, hi => by rw [mrg, List.getElem?_append_right hi, renS_eq, List.getElem?_map]; simp
  | p :: π, σ, [], i, h, _ => by simp at h
  | p :: π, σ, x :: s, i, h, hi => by
    rw [mrg, mrg_new (by simpa using h) (by simpa using hi)]
    simp only [List.length_set, List.length_cons]
    rw [show π.length + 1 + (i - σ.length) = (π.length + (i - σ.length)) + 1 by omega, List.getElem?_cons_succ]
theorem kill_len : ∀ (F : List Nat) (σ : St), (kill F σ).length = σ.length
  | [], σ => rfl
  | o :: F, σ => by rw [kill, kill_len F]; simp
theorem kill_get : ∀ (F : List Nat) (σ : St) {i : Nat} {ob : Ob}, (kill F σ)[i]? = some (some ob) → i ∉ F ∧ σ[i]? = some (some ob)
  | [], σ, i, ob, h => ⟨by simp, h⟩
  | o :: F, σ, i, ob, h => by
    obtain ⟨h1, h2⟩ := kill_get F (σ.set o none) h
    by_cases e : o = i
    · subst e
      rw [List.getElem?_set] at h2
      simp at h2
    · rw [List.getElem?_set_ne e] at h2
      exact ⟨by simp [h1]; exact fun h => e h.symm, h2⟩
theorem RepV.ren {w : World} {Im : Nat → Prop} {μ μ' : Mu} {f : Nat → Nat} (hf : ∀ (j : Nat) x, μ[j]? = some x → μ'[f j]? = some x) {u : V} {v : Value} (h : RepV w Im μ u v) : RepV w Im μ' (renV f u) v := by
  have lst : ∀ {l : List V} {C : List Value}, (∀ (i : Nat) u c, l[i]? = some u → C[i]? = some c → RepV w Im μ' (renV f u) c) → ∀ (i : Nat) u c, (renL f l)[i]? = some u → C[i]? = some c → RepV w Im μ' u c := by
    intro l C ih i u c hu hc
    rw [renL_eq, List.getElem?_map] at hu
    cases hx : l[i]? with
    | none => rw [hx] at hu; cases hu
    | some x => rw [hx] at hu; cases hu; exact ih i x c hx hc
  induction h with
  | lit h => exact .lit h
  | row h => exact .row h
  | xrow h => exact .xrow h
  | ref h => exact .ref (hf _ _ h)
  | sl h =>
    obtain ⟨x, hx⟩ := h.some
    refine .sl ?_
    rw [hf _ _ hx]
    rw [hx] at h
    exact h
  | rref q1 q2 q3 q4 q5 q6 => exact .rref q1 q2 q3 q4 q5 q6
  | agg hn ho _ ih => exact .agg (by rw [renL_eq]; simpa using hn) ho (lst ih)
  | tup hn _ ih => exact .tup (by rw [renL_eq]; simpa using hn) (lst ih)
  | clo hn _ ih => exact .clo (by rw [renL_eq]; simpa using hn) (lst ih)
theorem RepO.ren {w : World} {Im : Nat → Prop} {μ μ' : Mu} {f : Nat → Nat} (hf : ∀ (j : Nat) x, μ[j]? = some x → μ'[f j]? = some x) {loc : Option (Nat × Nat)} {ob : Ob} (h : RepO w Im μ loc ob) : RepO w Im μ' loc (renO f ob) := by
  cases ob with
  | cells l =>
    obtain ⟨b, C, e, hB, ho, hL⟩ := h
    refine ⟨b, C, e, hB, ho, by rw [renL_eq]; simpa using hL.1, fun i u c hu hc => ?_⟩
    rw [renL_eq, List.getElem?_map] at hu
    cases hx : l[i]? with
    | none => rw [hx] at hu; cases hu
    | some x => rw [hx] at hu; cases hu; exact (hL.2 i x c hx hc).ren hf
  | row z l => exact h
/-- Numbers for what is lent: a slice that is nil gets a new one. -/
def vpi : Nat → Pi → List Nat
  | _, [] => []
  | n, some o :: r => o :: vpi n r
  | n, none :: r => n :: vpi (n + 1) r
def vcnt : Pi → Nat
  | [] => 0
  | some _ :: r => vcnt r
  | none :: r => vcnt r + 1
def padN : Nat → St → St
  | 0, σ => σ
  | n + 1, σ => padN n (σ ++ [none])
theorem padN_eq : ∀ (n : Nat) (σ : St), padN n σ = σ ++ List.replicate n none
  | 0, σ => by simp [padN]
  | n + 1, σ => by rw [padN, padN_eq n]; simp [List.replicate_succ]
theorem vpi_len : ∀ (π : Pi) (n : Nat), (vpi n π).length = π.length
  | [], _ => rfl
  | some _ :: r, n => by simp [vpi, vpi_len r]
  | none :: r, n => by simp [vpi, vpi_len r]
theorem vpi_some : ∀ (π : Pi) (n j o : Nat), π[j]? = some (some o) → (vpi n π)[j]? = some o
  | [], _, j, o, h => by simp at h
  | some p :: r, n, 0, o, h => by simp at h; subst h; rfl
  | none :: r, n, 0, o, h => by simp at h
  | some p :: r, n, j + 1, o, h => by simpa [vpi] using vpi_some r n j o (by simpa using h)
  | none :: r, n, j + 1, o, h => by simpa [vpi] using vpi_some r (n + 1) j o (by simpa using h)
theorem vpi_none : ∀ (π : Pi) (n j : Nat), π[j]? = some none → ∃ m, (vpi n π)[j]? = some m ∧ n ≤ m ∧ m < n + vcnt π
  | [], _, j, h => by simp at h
  | some p :: r, n, 0, h => by simp at h
  | none :: r, n, 0, _ => ⟨n, rfl, Nat.le_refl _, by simp [vcnt]⟩
  | some p :: r, n, j + 1, h => by simpa [vpi, vcnt] using vpi_none r n j (by simpa using h)
  | none :: r, n, j + 1, h => by
    obtain ⟨m, h1, h2, h3⟩ := vpi_none r (n + 1) j (by simpa using h)
    exact ⟨m, by simpa [vpi] using h1, by omega, by simp only [vcnt]; omega⟩
theorem vpi_mem : ∀ (π : Pi) (n m : Nat), m ∈ vpi n π → some m ∈ π ∨ (n ≤ m ∧ m < n + vcnt π)
  | [], _, m, h => by simp [vpi] at h
  | some p :: r, n, m, h => by
    simp only [vpi, List.mem_cons] at h
    rcases h with rfl | h
    · exact .inl (by simp)
    · exact (vpi_mem r n m h).imp (fun h => by simp [h]) id
  | none :: r, n, m, h => by
    simp only [vpi, List.mem_cons] at h
    simp only [vcnt]
    rcases h with rfl | h
    · exact .inr ⟨Nat.le_refl _, by omega⟩
    · rcases vpi_mem r (n + 1) m h with h | h
      · exact .inl (by simp [h])
      · exact .inr ⟨by omega, by omega⟩
theorem vpi_nodup : ∀ (π : Pi) (n : Nat), (π.filterMap id).Nodup → (∀ p, some p ∈ π → p < n) → (vpi n π).Nodup
  | [], _, _, _ => by simp [vpi]
  | some p :: r, n, h, hb => by
    simp only [List.filterMap_cons, id, List.nodup_cons] at h
    simp only [vpi, List.nodup_cons]
    refine ⟨fun hm => ?_, vpi_nodup r n h.2 (fun q hq => hb q (by simp [hq]))⟩
    rcases vpi_mem r n p hm with h1 | h1
    · exact h.1 (List.mem_filterMap.2 ⟨some p, h1, rfl⟩)
    · have := hb p (by simp); omega
  | none :: r, n, h, hb => by
    simp only [List.filterMap_cons, id] at h
    simp only [vpi, List.nodup_cons]
    refine ⟨fun hm => ?_, vpi_nodup r (n + 1) h (fun q hq => by have := hb q (by simp [hq]); omega)⟩
    rcases vpi_mem r (n + 1) n hm with h1 | h1
    · have := hb n (by simp [h1]); omega
    · omega
/-- What a call is given: the blocks π are lent (none: a slice that is nil), the slices F are told as unchanged from here on. -/
def CallM (π : Pi) (F : List Nat) (vs₀ : List V) (σ₀ : St) (vs : List V) (σ : St) : Prop :=
  (ndp π && π.all (fun p => match p with | some p => decide (p < σ.length) && !F.contains p | none => true)) = true ∧ mSt F.contains π σ σ₀ π ∧ mVs F.contains π σ vs₀ vs
/-- The store behind a call. -/
def behd (π : Pi) (F : List Nat) (σ s : St) : St := mrg (rnm (vpi σ.length π) (σ.length + vcnt π)) (vpi σ.length π) (padN (vcnt π) (kill F σ)) s

theorem callV_of {e : Bool} {f : FuncId} {vs vs₀ : List V} {σ σ₀ : St} {Q : V → St → Prop} {K : KV} (π : Pi) (F : List Nat) (spec : Fn P f vs₀ σ₀ Q) (hm : CallM π F vs₀ σ₀ vs σ) (he : e = true → σ₀ = [])
    (hk : ∀ u s, Q u s → K true (renV (rnm (vpi σ.length π) (σ.length + vcnt π)) u) (behd π F σ s)) : callV P e f vs σ K := by
  refine ⟨spec.1, fun μ Im w args r hr => ?_⟩
  obtain ⟨hc, hs, hv⟩ := hm
  simp only [Bool.and_eq_true] at hc
  obtain ⟨hnp, hall⟩ := hc
  have hall' : ∀ p, some p ∈ π → p < σ.length ∧ F.contains p = false := fun p hp => by
    have := List.all_eq_true.1 hall _ hp
    simpa using this
  have fz : Frz μ Im σ F.contains fun b => Im b ∨ ∃ (o n : Nat) (ob : Ob), F.contains o = true ∧ σ[o]? = some (some ob) ∧ μ[o]? = some (some (b, n)) := ⟨fun b hb => .inl hb, fun o b n ob h1 h2 h3 => .inr ⟨o, n, ob, h1, h2, h3⟩⟩
  obtain ⟨r₀, hl₀⟩ := r.part fz (fun j o hj => (hall' o (List.mem_of_getElem? hj)).2) (ndl_of_ndp hnp) hs (fun b hb => hb)
  obtain ⟨hsl, hss⟩ := mSt_spec hs
  refine (spec.2 (muOf μ π) _ w args r₀ (mVs_sound r fz hv hr)).mono ?_
  rintro v w' ⟨u, s, μ₁, Im₁, r₁, s₁, hlen, hu, hQ⟩
  have hn : μ.length = σ.length := r.len
  generalize hN : σ.length = N at *
  generalize hq : vcnt π = q at *
  have hμ₁ : μ₁.length = s.length := r₁.len
  have hpl : (vpi N π).length = π.length := vpi_len π N
  have hps : (vpi N π).length ≤ s.length := by omega
  have hnd : (vpi N π).Nodup := vpi_nodup π N (of_decide_eq_true hnp) fun p hp => (hall' p hp).1
  have hkx : (padN q (kill F σ)) = kill F σ ++ List.replicate q none := padN_eq _ _
  have hxl : (padN q (kill F σ)).length = N + q := by rw [hkx]; simp [kill_len, hN]
  have hplt : ∀ p ∈ vpi N π, p < N + q := fun p hp => by
    rcases vpi_mem π N p hp with h | h
    · have := (hall' p h).1; omega
    · rw [hq] at h; omega
  have hmx : (μ ++ List.replicate q none).length = N + q := by simp [hn]
  have hf : ∀ (j : Nat) x, μ₁[j]? = some x → ((μ ++ List.replicate q none) ++ μ₁.drop π.length)[rnm (vpi N π) (N + q) j]? = some x := by
    intro j x hx
    by_cases hj : j < π.length
    · have hjp : j < (vpi N π).length := by omega
      rw [rnm_lt hjp, List.getElem?_append_left (by rw [hmx]; exact hplt _ (List.getElem_mem hjp))]
      rw [s₁.pre j (by omega)] at hx
      have hpj : π[j]? = some π[j] := List.getElem?_eq_getElem hj
      cases hp : π[j] with
      | some o =>
        rw [hp] at hpj
        have h1 := vpi_some π N j o hpj
        rw [List.getElem?_eq_getElem hjp] at h1
        have h2 : (vpi N π)[j] = o := Option.some.inj h1
        have hlt : o < μ.length := by rw [hn]; exact (hall' o (List.mem_of_getElem? hpj)).1
        rw [h2, List.getElem?_append_left hlt]
        rw [muOf_some hpj, List.getElem?_eq_getElem hlt] at hx
        rw [List.getElem?_eq_getElem hlt]
        simpa using hx
      | none =>
        rw [hp] at hpj
        obtain ⟨m, h1, h2, h3⟩ := vpi_none π N j hpj
        rw [List.getElem?_eq_getElem hjp] at h1
        have h4 : (vpi N π)[j] = m := Option.some.inj h1
        rw [muOf_none hpj] at hx
        rw [h4, List.getElem?_append_right (by omega), List.getElem?_replicate, if_pos (by rw [hq] at h3; omega), ← hx]
    · rw [rnm_ge (by omega), List.getElem?_append_right (by omega), List.getElem?_drop, ← hx]
      congr 1
      rw [hmx]
      omega
  -- what a number behind stands for
  have src : ∀ (i : Nat) ob, (behd π F σ s)[i]? = some (some ob) →
      (some i ∉ π ∧ i ∉ F ∧ i < N ∧ σ[i]? = some (some ob)) ∨ ∃ j ob₁, s[j]? = some (some ob₁) ∧ ob = renO (rnm (vpi N π) (N + q)) ob₁ ∧ i = rnm (vpi N π) (N + q) j := by
    intro i ob h
    unfold behd at h
    rw [hN, hq] at h
    by_cases hi : i < N + q
    · by_cases hp : i ∈ vpi N π
      · obtain ⟨j, hj, hje⟩ := List.mem_iff_getElem.1 hp
        rw [mrg_at (j := j) hps hnd (by rw [List.getElem?_eq_getElem hj, hje]) (by omega)] at h
        cases hx : s[j]? with
        | none => rw [hx] at h; cases h
        | some x =>
          rw [hx] at h
          cases x with
          | none => cases h
          | some ob₁ => cases h; exact .inr ⟨j, ob₁, hx, rfl, by rw [rnm_lt hj, hje]⟩
      · rw [mrg_old hps (by omega) hp, hkx] at h
        by_cases hiN : i < N
        · rw [List.getElem?_append_left (by rw [kill_len, hN]; exact hiN)] at h
          obtain ⟨h1, h2⟩ := kill_get F σ h
          refine .inl ⟨fun hm => ?_, h1, hiN, h2⟩
          obtain ⟨j, hj, hje⟩ := List.mem_iff_getElem.1 hm
          exact hp (List.mem_of_getElem? (vpi_some π N j i (by rw [List.getElem?_eq_getElem hj, hje])))
        · rw [List.getElem?_append_right (by rw [kill_len, hN]; omega), List.getElem?_replicate] at h
          split at h <;> cases h
    · rw [mrg_new hps (by omega)] at h
      cases hx : s[(vpi N π).length + (i - (padN q (kill F σ)).length)]? with
      | none => rw [hx] at h; cases h
      | some x =>
        rw [hx] at h
        cases x with
        | none => cases h
        | some ob₁ => cases h; exact .inr ⟨_, ob₁, hx, rfl, by rw [rnm_ge (by omega)]; omega⟩
  have hext : Ext (live μ σ) w w' := s₁.ext.mono fun b hb => .inl (hl₀ b hb)
  have mn : Mono μ Im w ((μ ++ List.replicate q none) ++ μ₁.drop π.length) Im₁ w' := ⟨by rw [List.append_assoc]; exact List.prefix_append _ _, fun b hb => s₁.im b (.inl hb), fun b hb => hext.block b (r.im b hb).1 (r.im b hb).2⟩
  have oldget : ∀ {i : Nat} {x}, i < N → ((μ ++ List.replicate q none) ++ μ₁.drop π.length)[i]? = x → μ[i]? = x := fun {i x} hi h => by
    rw [List.append_assoc, List.getElem?_append_left (by omega)] at h; exact h
  -- a block that is not lent
  have apart : ∀ {i : Nat} {ob : Ob} {b n : Nat}, some i ∉ π → σ[i]? = some (some ob) → μ[i]? = some (some (b, n)) → b ∉ live (muOf μ π) σ₀ := by
    intro i ob b n hi h1 h2 hb
    obtain ⟨j, m, ob₀, h3, h4⟩ := mem_live.1 hb
    rcases hss j ob₀ h4 with ⟨o, ob', h5, h6, _⟩ | ⟨h5, _⟩
    · rw [muOf_some h5] at h3
      obtain ⟨loc, h7, _⟩ := r.rep o ob' h6
      rw [h7] at h3
      simp at h3
      subst h3
      have := r.inj i o ob ob' b n m h1 h6 h2 h7
      subst this
      exact hi (List.mem_of_getElem? h5)
    · rw [muOf_none h5] at h3
      cases h3
  have news : ∀ {j : Nat} {ob : Ob} {b n : Nat}, s[j]? = some (some ob) → ((μ ++ List.replicate q none) ++ μ₁.drop π.length)[rnm (vpi N π) (N + q) j]? = some (some (b, n)) → μ₁[j]? = some (some (b, n)) := by
    intro j ob b n h1 h2
    have : μ₁[j]? = some (μ₁[j]'(by rw [hμ₁]; exact get_lt h1)) := List.getElem?_eq_getElem _
    rw [hf j _ this] at h2
    rw [this]
    exact h2
  have hlive : ∀ b ∈ live ((μ ++ List.replicate q none) ++ μ₁.drop π.length) (behd π F σ s), b ∈ live μ σ ∨ w.heap.size ≤ b := by
    intro b hb
    obtain ⟨i, n, ob, h1, h2⟩ := mem_live.1 hb
    rcases src i ob h2 with ⟨h3, h4, h5, h6⟩ | ⟨j, ob₁, h3, rfl, rfl⟩
    · exact .inl (mem_live.2 ⟨i, n, ob, oldget h5 h1, h6⟩)
    · exact (s₁.live b (mem_live.2 ⟨j, n, ob₁, news h3 h1, h3⟩)).imp (hl₀ b) id
  refine ⟨_, _, (μ ++ List.replicate q none) ++ μ₁.drop π.length, Im₁, ⟨?_, fun i ob h => ?_, fun i i' ob ob' b n n' h1 h2 h3 h4 => ?_, fun b hb => ?_⟩, ⟨by rw [List.append_assoc]; exact List.prefix_append _ _, fun b hb => s₁.im b (.inl hb), hext, hlive, fun b hb => ?_⟩, fun e' => ?_, hu.ren hf, hk u s hQ⟩
  · unfold behd
    rw [hN, hq, mrg_len hps, hxl]
    simp [hn]
    omega
  · rcases src i ob h with ⟨h3, h4, h5, h6⟩ | ⟨j, ob₁, h3, rfl, rfl⟩
    · obtain ⟨loc, h7, h8⟩ := r.rep i ob h6
      refine ⟨loc, by rw [List.append_assoc, List.getElem?_append_left (by omega)]; exact h7, h8.mono mn fun b n e => ?_⟩
      subst e
      exact s₁.ext.block b (r.lt (mem_live.2 ⟨i, n, ob, h7, h6⟩)) (apart h3 h6 h7)
    · obtain ⟨loc, h7, h8⟩ := r₁.rep j ob₁ h3
      exact ⟨loc, hf j loc h7, h8.ren hf⟩
  · have mixed : ∀ {i j : Nat} {ob ob₁ : Ob} {b n n' : Nat}, some i ∉ π → i < N → σ[i]? = some (some ob) → ((μ ++ List.replicate q none) ++ μ₁.drop π.length)[i]? = some (some (b, n)) → s[j]? = some (some ob₁) → ((μ ++ List.replicate q none) ++ μ₁.drop π.length)[rnm (vpi N π) (N + q) j]? = some (some (b, n')) → False := by
      intro i j ob ob₁ b n n' h1 h2 h3 h4 h5 h6
      have h4' := oldget h2 h4
      rcases s₁.live b (mem_live.2 ⟨j, n', ob₁, news h5 h6, h5⟩) with h7 | h7
      · exact apart h1 h3 h4' h7
      · have := r.lt (mem_live.2 ⟨i, n, ob, h4', h3⟩)
        omega
    rcases src i ob h1 with ⟨q1, q2, q3, q4⟩ | ⟨j, ob₁, q1, rfl, rfl⟩
    · rcases src i' ob' h2 with ⟨q5, q6, q7, q8⟩ | ⟨j, ob₁, q5, rfl, rfl⟩
      · exact r.inj i i' ob ob' b n n' q4 q8 (oldget q3 h3) (oldget q7 h4)
      · exact (mixed q1 q3 q4 h3 q5 h4).elim
    · rcases src i' ob' h2 with ⟨q5, q6, q7, q8⟩ | ⟨j', ob₁', q5, rfl, rfl⟩
      · exact (mixed q5 q7 q8 h4 q1 h3).elim
      · have := r₁.inj j j' ob₁ ob₁' b n n' q1 q5 (news q1 h3) (news q5 h4)
        subst this
        rfl
  · refine ⟨(r₁.im b hb).1, fun h => ?_⟩
    obtain ⟨i, n, ob, h1, h2⟩ := mem_live.1 h
    rcases src i ob h2 with ⟨q1, q2, q3, q4⟩ | ⟨j, ob₁, q1, rfl, rfl⟩
    · have h1' := oldget q3 h1
      have hbl : b ∈ live μ σ := mem_live.2 ⟨i, n, ob, h1', q4⟩
      rcases s₁.fresh b hb with (h5 | ⟨o, m, ob', h5, h6, h7⟩) | h5 | h5
      · exact (r.im b h5).2 hbl
      · have := r.inj i o ob ob' b n m q4 h6 h1' h7
        subst this
        exact q2 (List.contains_iff_mem.1 h5)
      · exact apart q1 q4 h1' h5
      · have := r.lt hbl
        omega
    · exact (r₁.im b hb).2 (mem_live.2 ⟨j, n, ob₁, news q1 h1, q1⟩)
  · rcases s₁.fresh b hb with (h5 | ⟨o, m, ob', h5, h6, h7⟩) | h5 | h5
    · exact .inl h5
    · exact .inr (.inl (mem_live.2 ⟨o, m, ob', h7, h6⟩))
    · exact .inr (.inl (hl₀ b h5))
    · exact .inr (.inr h5)
  · have e0 := he e'
    refine s₁.ext.mono fun b hb => ?_
    rw [e0] at hb
    simp [live] at hb

/-- A law's end. -/
theorem rets_of_fn {f : FuncId} {vs : List V} {args : List Value} {w : World} {u : V} {Q : V → St → Prop} (h : Fn P f vs [] Q) (hr : RepL w (fun b => b < w.heap.size) [] vs args) (hq : ∀ u s, Q u s → u = .lit (.bool true)) :
    Rets P f args w fun v w' => v = .bool true ∧ Ext [] w w' := by
  have r : Rel [] (fun b => b < w.heap.size) [] w := ⟨rfl, fun o ob h => by simp at h, fun o o' ob ob' b n n' h => by simp at h, fun b hb => ⟨hb, by simp [live]⟩⟩
  refine (h.2 [] _ w args r hr).mono ?_
  rintro v w' ⟨u, σ', μ', Im', h1, h2, h3, h4, h5⟩
  have e := hq _ _ h5
  subst e
  cases h4
  exact ⟨rfl, h2.ext.mono fun b hb => by simp [live] at hb⟩
end
end Go.Vx
