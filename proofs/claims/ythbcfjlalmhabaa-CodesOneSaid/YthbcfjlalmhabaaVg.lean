import Derived.Test.YthbcfjlalmhabaaVf
import Derived.Test.YthbcfjlalmhabaaCopy
/-! Memory: 'make', 'append', 'copy'; one operation. -/
namespace Go.Vx
open Go.Eng
set_option linter.unusedSimpArgs false
set_option linter.unusedVariables false
section
variable {w w' : World} {Im : Nat → Prop} {μ : Mu} {σ : St} {ρ : Vg} {ρc : Rg} {P : Program}

theorem zrow_get {C : List Value} {n i : Nat} {p : PV} (h : (zrow C n).flatten[i]? = some p) : ∃ c, C[i % C.length]? = some c ∧ p = .lit c := by
  have hz : ∀ e ∈ zrow C n, e.length = C.length := fun e he => by
    unfold zrow at he
    rw [(List.mem_replicate.1 he).2]
    simp
  have hlt := get_lt h
  rw [flat_len hz] at hlt
  have hn : (zrow C n).length = n := by simp [zrow]
  rw [hn] at hlt
  have hC : 0 < C.length := by
    rcases Nat.eq_zero_or_pos C.length with h0 | h0
    · rw [h0] at hlt; omega
    · exact h0
  have e1 : i = i / C.length * C.length + i % C.length := by rw [Nat.mul_comm]; exact (Nat.div_add_mod _ _).symm
  have hd : i / C.length < n := (Nat.div_lt_iff_lt_mul hC).2 hlt
  have hel : (zrow C n)[i / C.length]? = some (C.map PV.lit) := by
    unfold zrow
    rw [List.getElem?_replicate, if_pos hd]
  rw [e1, flat_get hz hel (Nat.mod_lt _ hC), List.getElem?_map] at h
  cases hc : C[i % C.length]? with
  | none => rw [hc] at h; cases h
  | some c => rw [hc] at h; cases h; exact ⟨c, rfl, rfl⟩

theorem mslV_sound {e : Bool} {t : TypeId} {l c : V} {a b : Value} {K : KV} (r : Rel μ Im σ w) (hl : RepV w Im μ l a) (hc : RepV w Im μ c b) (h : mslV P t l c σ K) : Runs e μ Im σ w K fun k => msl P t a b w k := by
  intro k hk
  unfold mslV at h
  split at h
  · rename_i et z hel
    obtain ⟨ht, hz⟩ := elOf_spec hel
    split at h
    · rename_i C y hze hby
      unfold mslU at h
      split at h
      · rename_i n m
        split at h
        · rename_i hcond
          obtain ⟨h0, rfl, hb, hlt, hy0, hCz⟩ := hcond
          obtain ⟨hone, hK⟩ := allOne_iff.1 h
          cases hl; cases hc
          obtain ⟨N, rfl⟩ := Int.eq_ofNat_of_zero_le h0
          rw [Int.toNat_natCast] at hK
          obtain ⟨ti, hti, hbyt⟩ : ∃ ti, P.info? et = some ti ∧ ti.bytes = y := by
            unfold byOf at hby
            cases hi : P.info? et with
            | none => rw [hi] at hby; cases hby
            | some ti => rw [hi] at hby; exact ⟨ti, rfl, by simpa using hby⟩
          obtain ⟨zv, hzv, hzc⟩ := zeOf_spec hze
          have hzs : zv.cells.size = z := by rw [← hCz, ← hzc]; simp
          have fin : ∀ (Z : Array Value), (N * z ≠ 0 → Z = zv.cells) → resK ((do
              let a ← newRow et ((Array.range (N * z)).map (Z[· % Z.size]!))
              pure (.slice (some a) N N) : Sem Value).run P w) (k true) := by
            intro Z hZ
            obtain ⟨D, hD, hDs⟩ : ∃ D : List Value, (Array.range (N * z)).map (Z[· % Z.size]!) = D.toArray ∧ ∀ (i : Nat) c, D[i]? = some c → i < N * z ∧ zv.cells[i % z]? = some c := by
              refine ⟨(List.range (N * z)).map (Z[· % Z.size]!), by apply Array.toList_inj.1; simp, fun i c hc => ?_⟩
              rw [List.getElem?_map] at hc
              have hi : i < N * z := by
                by_cases hi : i < N * z
                · exact hi
                · rw [List.getElem?_eq_none (by simp; omega)] at hc; cases hc
              refine ⟨hi, ?_⟩
              rw [List.getElem?_range hi] at hc
              simp only [Option.map_some, Option.some.injEq] at hc
              have hz0 : 0 < z := by
                rcases Nat.eq_zero_or_pos z with h | h
                · subst h; simp at hi
                · exact h
              rw [hZ (by omega), hzs] at hc
              have hlt2 : i % z < zv.cells.size := by rw [hzs]; exact Nat.mod_lt _ hz0
              rw [getElem!_pos zv.cells _ hlt2] at hc
              rw [Array.getElem?_eq_getElem hlt2, hc]
            have hDl : D.length = N * z := by
              have := congrArg Array.size hD
              simpa using this.symm
            rw [hD]
            obtain ⟨σ', μ', e1, e2, e3, e4⟩ := newO_sound (t := et) (ob := .row z (zrow C N)) r (C := D) ⟨fun x hx => by
                unfold zrow at hx
                rw [(List.mem_replicate.1 hx).2]
                simp [hCz], .inr ⟨_, D, rfl, Blk.new _ _ _, by simp [zrow, hDl], fun i c p hc hp => by
              obtain ⟨c', h1, rfl⟩ := zrow_get hp
              have h2 := (hDs i c hc).2
              rw [hCz, ← hzc, Array.getElem?_toList] at h1
              rw [h1] at h2
              cases h2
              refine .lit ?_
              refine all_mem hone _ ?_
              rw [← hzc]
              exact List.mem_of_getElem? (by rw [Array.getElem?_toList]; exact h1)⟩⟩ hK
            have e5 : RepV (w.alloc (.cells D.toArray et)) Im μ' (.sl σ.length z 0 N) (.slice (some ⟨w.heap.size, 0, none⟩) N N) := .sl ⟨Nat.le_refl _, by rw [e3]; exact ⟨fun _ => by simp, by simp [hDl]⟩⟩
            exact hk _ _ _ _ _ _ e1 e2 (fun _ => (Ext.refl [] w).alloc _) e5 e4
          unfold msl runK Instr.makeSlice
          simp only [Sem.run_bind, run_underlying ht, Result.andThen_ok, asInt, asIntOf, pure_bind, run_typeInfo hti, hbyt]
          have hw : IntKind.i64.wrap (N : Int) = N := wrap_i64 (by omega)
          have hbig : ((y : Int) * (N : Int) > 2 ^ 48) = False := by
            rw [Int.mul_comm]
            simp only [eq_iff_iff, iff_false]
            omega
          rw [hw]
          have h1 : (decide ((N : Int) < 0) || decide ((y : Int) * (N : Int) > 2 ^ 48)) = false := by
            rw [decide_eq_false (by omega), decide_eq_false (by rw [hbig]; exact id)]; rfl
          simp only [h1, Bool.false_or, Bool.or_false]
          rw [if_neg (by simp)]
          have hroomrun : ∀ (c : Nat) (w : World), (askRoom c).run P w = .ok () w := fun c w => by
            unfold askRoom
            split <;> rfl
          simp only [Sem.run_bind, hroomrun, Result.andThen_ok, run_sizeOf hz, Int.toNat_natCast]
          by_cases hz0 : N * z = 0
          · rw [if_pos hz0]
            exact fin #[] (fun h => absurd hz0 h)
          · rw [if_neg hz0]
            simp only [Sem.run_bind, run_zero hzv, Result.andThen_ok, pure_bind, bind_assoc]
            exact fin _ (fun _ => rfl)
        · exact h.elim
      · exact h.elim
    · exact h.elim
  · exact h.elim

/-- What 'append' leaves: a block told anew. -/
theorem own_obj {v : Value} {n z : Nat} {cs : List Value} {m : List (List PV)} (h : OwnC w v n z cs) (hm : m.length = n) (hz : ∀ e ∈ m, e.length = z) (hr : ∀ (i : Nat) c p, cs[i]? = some c → m.flatten[i]? = some p → RepP w Im p c) :
    ∃ loc, (∀ b q, loc = some (b, q) → b ∈ fpv v) ∧ (∀ μ, RepO w Im μ loc (.row z m)) ∧ ∀ μ o, μ[o]? = some loc → RepV w Im μ (.sl o z 0 n) v := by
  obtain ⟨hl, hor⟩ := h
  rcases hor with ⟨rfl, rfl⟩ | ⟨b, C, cap, rfl, hB, hC, hn, ht⟩
  · have : m = [] := List.length_eq_zero_iff.1 hm
    subst this
    exact ⟨none, (fun b q e => by cases e), fun μ => ⟨by simp, .inl ⟨rfl, rfl⟩⟩, fun μ o ho => .sl ⟨Nat.le_refl _, by rw [ho]; exact ⟨rfl, rfl, rfl, rfl⟩⟩⟩
  · refine ⟨some (b, C.length), (fun b' q e => by cases e; simp [fpv]), fun μ => ⟨hz, .inr ⟨b, C, rfl, hB, ?_, fun i c p hc hp => ?_⟩⟩, fun μ o ho => .sl ⟨hn, by rw [ho]; exact ⟨fun _ => by simp, by simpa using hC⟩⟩⟩
    · rw [hm]
      exact Nat.le_trans (Nat.mul_le_mul_right z hn) hC
    · have hi := get_lt hp
      rw [flat_len hz, hm] at hi
      refine hr i c p ?_ hp
      rw [← ht, List.getElem?_take, if_pos hi]
      exact hc
theorem flat_app {l m : List (List PV)} {z i : Nat} {c : Value} {p : PV} {C D : List Value} (hC : C.length = l.length * z) (hz : ∀ e ∈ l, e.length = z) (hl : ∀ (i : Nat) c p, C[i]? = some c → l.flatten[i]? = some p → RepP w Im p c)
    (hm : ∀ (i : Nat) c p, D[i]? = some c → m.flatten[i]? = some p → RepP w Im p c) (hc : (C ++ D)[i]? = some c) (hp : (l ++ m).flatten[i]? = some p) : RepP w Im p c := by
  rw [List.flatten_append] at hp
  have hf := flat_len hz
  by_cases hi : i < C.length
  · rw [List.getElem?_append_left hi] at hc
    rw [List.getElem?_append_left (by omega)] at hp
    exact hl i c p hc hp
  · rw [List.getElem?_append_right (by omega)] at hc
    rw [List.getElem?_append_right (by omega), hf, ← hC] at hp
    exact hm _ c p hc hp
theorem apdV_sound {e : Bool} {t tx ty : TypeId} {cst : Array Bool} {u x : V} {a b : Value} {K : KV} (r : Rel μ Im σ w) (hu : RepV w Im μ u a) (hx : RepV w Im μ x b) (h : apdV P e t tx u x σ K) : Runs e μ Im σ w K fun k => bltK P .append #[t, tx] ty cst [a, b] w k := by
  intro k hk
  unfold apdV at h
  split at h
  · rename_i et z et' zx hel helx
    obtain ⟨ht, hz⟩ := elOf_spec hel
    obtain ⟨htx, hzx⟩ := elOf_spec helx
    split at h
    · rename_i C y hze hby
      split at h
      · rename_i hcond
        obtain ⟨hy0, hCz, rfl⟩ := hcond
        obtain ⟨m, ad, cap, D, rfl, hD, hG⟩ := rowK_sound r hx h
        unfold apdU at hG
        split at hG
        · rename_i o z' off len
          split at hG
          · rename_i hc1
            obtain ⟨rfl, rfl, rfl⟩ := hc1
            obtain ⟨ob, hob, hG⟩ := obV_sound hG
            unfold apdO at hG
            split at hG
            · rename_i z'' l
              split at hG
              · rename_i hc2
                obtain ⟨rfl, rfl, hbytes⟩ := hc2
                obtain ⟨loc, hloc, hzl, hO⟩ := r.rep _ _ hob
                cases hu with
                | @sl _ _ _ _ capu adu hs =>
                  rw [hloc] at hs
                  obtain ⟨hlc, hs⟩ := hs
                  obtain ⟨cs, hown, hcr, hfp⟩ : ∃ cs, OwnC w (.slice adu l.length capu) l.length z'' cs ∧ (∀ (i : Nat) c p, cs[i]? = some c → l.flatten[i]? = some p → RepP w Im p c) ∧ (∀ q ∈ fpv (.slice adu l.length capu), ∃ n, loc = some (q, n)) := by
                    rcases hO with ⟨rfl, rfl⟩ | ⟨bb, CC, rfl, hB, hCl, hr⟩
                    · obtain ⟨rfl, _, rfl, _⟩ := hs
                      exact ⟨[], OwnC.nil _ _, by simp, by simp [fpv]⟩
                    · obtain ⟨ha, hn⟩ := hs
                      have ha' := ha (.inr rfl)
                      simp only [Nat.zero_mul, Nat.zero_add] at ha' hn
                      subst ha'
                      refine ⟨CC.take (l.length * z''), ⟨by simp; omega, .inr ⟨bb, CC, capu, rfl, hB, hn, hlc, rfl⟩⟩, fun i c p hc hp => ?_, fun q hq => by simp [fpv] at hq; subst hq; exact ⟨_, rfl⟩⟩
                      rw [List.getElem?_take] at hc
                      split at hc
                      · exact hr i c p hc hp
                      · cases hc
                  refine append_own (ty := ty) (cst := cst) ht htx hz hby hy0 hze hCz hown hD.row hD.len hD.one (by omega) fun v' w' hv' hE hF => ?_
                  have hEl : Ext (live μ σ) w w' := hE.mono (fun q hq => by
                    obtain ⟨n, rfl⟩ := hfp q hq
                    exact .inl (mem_live.2 ⟨o, n, _, hloc, hob⟩))
                  have mn : Mono μ Im w μ Im w' := ⟨List.prefix_refl _, fun _ h => h, fun q hq => hEl.block q (r.im q hq).1 (r.im q hq).2⟩
                  obtain ⟨loc', k1, k2, k3⟩ := own_obj (Im := Im) (m := l ++ m) hv' (by simp) (fun e he => (List.mem_append.1 he).elim (hzl e) (hD.siz e)) (fun i c p hc hp => (flat_app hown.1 hzl hcr hD.rep hc hp).mono mn)
                  obtain ⟨r', s'⟩ := r.renew (loc' := loc') (ob' := .row z'' (l ++ m)) hob hloc hEl (fun c hc hne => by
                      obtain ⟨_, _, _, hc1, hc2⟩ := mem_live.1 hc
                      exact hE.block c (r.lt hc) (fun hm => by obtain ⟨n, e⟩ := hfp c hm; exact hne n e)) (fun b q e => by
                      rcases hF b (k1 b q e) with h | h
                      · exact .inl (hfp b h)
                      · exact .inr h) (k2 _)
                  refine hk _ _ _ _ _ _ r' s' (fun h => by cases h) (k3 _ _ ?_) hG
                  rw [get_snoc, if_neg (by simp [r.len]), if_pos (by simp [r.len])]
              · exact hG.elim
            · exact hG.elim
          · exact hG.elim
        · split at hG
          · rename_i hbytes
            cases hu
            refine append_own (ty := ty) (cst := cst) ht htx hz hby hy0 hze hCz (OwnC.nil w _) hD.row hD.len hD.one (by rw [Nat.zero_add]; exact hbytes) fun v' w' hv' hE hF => ?_
            have hE' : Ext [] w w' := hE.mono (by simp [fpv])
            have mn : Mono μ Im w μ Im w' := ⟨List.prefix_refl _, fun _ h => h, fun q hq => hE'.block q (r.im q hq).1 (by simp)⟩
            rw [List.nil_append, Nat.zero_add] at hv'
            obtain ⟨loc', k1, k2, k3⟩ := own_obj (Im := Im) (m := m) hv' rfl hD.siz (fun i c p hc hp => (hD.rep i c p hc hp).mono mn)
            obtain ⟨r', s'⟩ := r.add (loc := loc') (ob := .row zx m) hE' (fun b q e => by
                rcases hF b (k1 b q e) with h | h
                · simp [fpv] at h
                · exact h) (k2 _)
            refine hk _ _ _ _ _ _ r' s' (fun _ => hE') (k3 _ _ ?_) hG
            rw [get_snoc, if_neg (by simp [r.len]), if_pos (by simp [r.len])]
          · exact hG.elim
        · split at hG
          · rename_i z' l hc1
            obtain ⟨rfl, hm0, hbytes⟩ := hc1
            cases hu with
            | @xrow _ len _ adu hp =>
              cases hp with
              | @row _ _ _ _ _ CC hl hcap hzl hR hI hn ho hr =>
                subst hl
                refine append_fresh (ty := ty) (cst := cst) (n := l.length) (m := m.length) ht htx hz hby hy0 hze hCz hR hn hD.row hD.len hD.one (by omega) (by omega) fun v' w' hv' hE' hF => ?_
                have mn : Mono μ Im w μ Im w' := ⟨List.prefix_refl _, fun _ h => h, fun q hq => hE'.block q (r.im q hq).1 (by simp)⟩
                obtain ⟨loc', k1, k2, k3⟩ := own_obj (Im := Im) (m := l ++ m) hv' (by simp) (fun e he => (List.mem_append.1 he).elim (hzl e) (hD.siz e)) (fun i c p hc hp => (flat_app hn hzl hr hD.rep hc hp).mono mn)
                obtain ⟨r', s'⟩ := r.add (loc := loc') (ob := .row z' (l ++ m)) hE' (fun b q e => hF b (k1 b q e)) (k2 _)
                refine hk _ _ _ _ _ _ r' s' (fun _ => hE') (k3 _ _ ?_) hG
                rw [get_snoc, if_neg (by simp [r.len]), if_pos (by simp [r.len])]
          · exact hG.elim
        · exact hG.elim
      · exact h.elim
    · exact h.elim
  · exact h.elim
end
end Go.Vx
