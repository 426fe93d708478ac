import Derived.Test.YtdpekigpjihnkaaE3
import Derived.Test.YtdpekigpjihnkaaE2
/-! Memory: 'make', 'append', 'copy'; one operation. -/
namespace Go.Vx
open Go.Eng
set_option linter.unusedSimpArgs false
set_option linter.unusedVariables false
section
variable {w w' : World} {Im : Nat → Prop} {μ : Mu} {σ : St} {ρ : Vg} {ρc : Rg} {P : Program}

theorem zrow_get {C : List Value} {n i : Nat} {p : PV} (h : (zrow C n).flatten[i]? = some p) : ∃ c, C[i % C.length]? = some c ∧ p = .lit c := by
  have hz : ∀ e ∈ zrow C n, e.length = C.length := fun e he => by
    unfold zrow at he
    rw [(List.mem_replicate.1 he).2]
    simp
  have hlt := get_lt h
  rw [flat_len hz] at hlt
  have hn : (zrow C n).length = n := by simp [zrow]
  rw [hn] at hlt
  have hC : 0 < C.length := by
    rcases Nat.eq_zero_or_pos C.length with h0 | h0
    · rw [h0] at hlt; omega
    · exact h0
  have e1 : i = i / C.length * C.length + i % C.length := by rw [Nat.mul_comm]; exact (Nat.div_add_mod _ _).symm
  have hd : i / C.length < n := (Nat.div_lt_iff_lt_mul hC).2 hlt
  have hel : (zrow C n)[i / C.length]? = some (C.map PV.lit) := by
    unfold zrow
    rw [List.getElem?_replicate, if_pos hd]
  rw [e1, flat_get hz hel (Nat.mod_lt _ hC), List.getElem?_map] at h
  cases hc : C[i % C.length]? with
  | none => rw [hc] at h; cases h
  | some c => rw [hc] at h; cases h; exact ⟨c, rfl, rfl⟩

theorem mslV_sound {e : Bool} {t : TypeId} {l c : V} {a b : Value} {K : KV} (r : Rel μ Im σ w) (hl : RepV w Im μ l a) (hc : RepV w Im μ c b) (h : mslV P t l c σ K) : Runs e μ Im σ w K fun k => msl P t a b w k := by
  intro k hk
  unfold mslV at h
  split at h
  · rename_i et z hel
    obtain ⟨ht, hz⟩ := elOf_spec hel
    split at h
    · rename_i C y hze hby
      unfold mslU at h
      split at h
      · rename_i n m
        split at h
        · rename_i hcond
          obtain ⟨h0, rfl, hb, hlt, hy0, hCz⟩ := hcond
          obtain ⟨hone, hK⟩ := allOne_iff.1 h
          cases hl; cases hc
          obtain ⟨N, rfl⟩ := Int.eq_ofNat_of_zero_le h0
          rw [Int.toNat_natCast] at hK
          obtain ⟨ti, hti, hbyt⟩ : ∃ ti, P.info? et = some ti ∧ ti.bytes = y := by
            unfold byOf at hby
            cases hi : P.info? et with
            | none => rw [hi] at hby; cases hby
            | some ti => rw [hi] at hby; exact ⟨ti, rfl, by simpa using hby⟩
          obtain ⟨zv, hzv, hzc⟩ := zeOf_spec hze
          have hzs : zv.cells.size = z := by rw [← hCz, ← hzc]; simp
          have fin : ∀ (Z : Array Value), (N * z ≠ 0 → Z = zv.cells) → resK ((do
              let a ← newRow et ((Array.range (N * z)).map (Z[· % Z.size]!))
              pure (.slice (some a) N N) : Sem Value).run P w) (k true) := by
            intro Z hZ
            obtain ⟨D, hD, hDs⟩ : ∃ D : List Value, (Array.range (N * z)).map (Z[· % Z.size]!) = D.toArray ∧ ∀ (i : Nat) c, D[i]? = some c → i < N * z ∧ zv.cells[i % z]? = some c := by
              refine ⟨(List.range (N * z)).map (Z[· % Z.size]!), by apply Array.toList_inj.1; simp, fun i c hc => ?_⟩
              rw [List.getElem?_map] at hc
              have hi : i < N * z := by
                by_cases hi : i < N * z
                · exact hi
                · rw [List.getElem?_eq_none (by simp; omega)] at hc; cases hc
              refine ⟨hi, ?_⟩
              rw [List.getElem?_range hi] at hc
              simp only [Option.map_some, Option.some.injEq] at hc
              have hz0 : 0 < z := by
                rcases Nat.eq_zero_or_pos z with h | h
                · subst h; simp at hi
                · exact h
              rw [hZ (by omega), hzs] at hc
              have hlt2 : i % z < zv.cells.size := by rw [hzs]; exact Nat.mod_lt _ hz0
              rw [getElem!_pos zv.cells _ hlt2] at hc
              rw [Array.getElem?_eq_getElem hlt2, hc]
            have hDl : D.length = N * z := by
              have := congrArg Array.size hD
              simpa using this.symm
            rw [hD]
            obtain ⟨σ', μ', e1, e2, e3, e4⟩ := newO_sound (t := et) (ob := .row z (zrow C N)) r (C := D) ⟨fun x hx => by
                unfold zrow at hx
                rw [(List.mem_replicate.1 hx).2]
                simp [hCz], .inr ⟨_, D, rfl, Blk.new _ _ _, by simp [zrow, hDl], fun i c p hc hp => by
              obtain ⟨c', h1, rfl⟩ := zrow_get hp
              have h2 := (hDs i c hc).2
              rw [hCz, ← hzc, Array.getElem?_toList] at h1
              rw [h1] at h2
              cases h2
              refine .lit ?_
              refine all_mem hone _ ?_
              rw [← hzc]
              exact List.mem_of_getElem? (by rw [Array.getElem?_toList]; exact h1)⟩⟩ hK
            have e5 : RepV (w.alloc (.cells D.toArray et)) Im μ' (.sl σ.length z 0 N) (.slice (some ⟨w.heap.size, 0, none⟩) N N) := .sl ⟨Nat.le_refl _, by rw [e3]; exact ⟨fun _ => by simp, by simp [hDl]⟩⟩
            exact hk _ _ _ _ _ _ e1 e2 (fun _ => (Ext.refl [] w).alloc _) e5 e4
          unfold msl runK Instr.makeSlice
          simp only [Sem.run_bind, run_underlying ht, Result.andThen_ok, asInt, asIntOf, pure_bind, run_typeInfo hti, hbyt]
          have hw : IntKind.i64.wrap (N : Int) = N := wrap_i64 (by omega)
          have hbig : ((y : Int) * (N : Int) > 2 ^ 48) = False := by
            rw [Int.mul_comm]
            simp only [eq_iff_iff, iff_false]
            omega
          rw [hw]
          have h1 : (decide ((N : Int) < 0) || decide ((y : Int) * (N : Int) > 2 ^ 48)) = false := by
            rw [decide_eq_false (by omega), decide_eq_false (by rw [hbig]; exact id)]; rfl
          simp only [h1, Bool.false_or, Bool.or_false]
          rw [if_neg (by simp)]
          have hroomrun : ∀ (c : Nat) (w : World), (askRoom c).run P w = .ok () w := fun c w => by
            unfold askRoom
            split <;> rfl
          simp only [Sem.run_bind, hroomrun, Result.andThen_ok, run_sizeOf hz, Int.toNat_natCast]
          by_cases hz0 : N * z = 0
          · rw [if_pos hz0]
            exact fin #[] (fun h => absurd hz0 h)
          · rw [if_neg hz0]
            simp only [Sem.run_bind, run_zero hzv, Result.andThen_ok, pure_bind, bind_assoc]
            exact fin _ (fun _ => rfl)
        · exact h.elim
      · exact h.elim
    · exact h.elim
  · exact h.elim

/-- What 'append' leaves: a block told anew. -/
theorem own_obj {v : Value} {n z : Nat} {cs : List Value} {m : List (List PV)} (h : OwnC w v n z cs) (hm : m.length = n) (hz : ∀ e ∈ m, e.length = z) (hr : ∀ (i : Nat) c p, cs[i]? = some c → m.flatten[i]? = some p → RepP w Im p c) :
    ∃ loc, (∀ b q, loc = some (b, q) → b ∈ fpv v) ∧ (∀ μ, RepO w Im μ loc (.row z m)) ∧ ∀ μ o, μ[o]? = some loc → RepV w Im μ (.sl o z 0 n) v := by
  obtain ⟨hl, hor⟩ := h
  rcases hor with ⟨rfl, rfl⟩ | ⟨b, C, cap, rfl, hB, hC, hn, ht⟩
  · have : m = [] := List.length_eq_zero_iff.1 hm
    subst this
    exact ⟨none, (fun b q e => by cases e), fun μ => ⟨by simp, .inl ⟨rfl, rfl⟩⟩, fun μ o ho => .sl ⟨Nat.le_refl _, by rw [ho]; exact ⟨rfl, rfl, rfl, rfl⟩⟩⟩
  · refine ⟨some (b, C.length), (fun b' q e => by cases e; simp [fpv]), fun μ => ⟨hz, .inr ⟨b, C, rfl, hB, ?_, fun i c p hc hp => ?_⟩⟩, fun μ o ho => .sl ⟨hn, by rw [ho]; exact ⟨fun _ => by simp, by simpa using hC⟩⟩⟩
    · rw [hm]
      exact Nat.le_trans (Nat.mul_le_mul_right z hn) hC
    · have hi := get_lt hp
      rw [flat_len hz, hm] at hi
      refine hr i c p ?_ hp
      rw [← ht, List.getElem?_take, if_pos hi]
      exact hc
theorem flat_app {l m : List (List PV)} {z i : Nat} {c : Value} {p : PV} {C D : List Value} (hC : C.length = l.length * z) (hz : ∀ e ∈ l, e.length = z) (hl : ∀ (i : Nat) c p, C[i]? = some c → l.flatten[i]? = some p → RepP w Im p c)
    (hm : ∀ (i : Nat) c p, D[i]? = some c → m.flatten[i]? = some p → RepP w Im p c) (hc : (C ++ D)[i]? = some c) (hp : (l ++ m).flatten[i]? = some p) : RepP w Im p c := by
  rw [List.flatten_append] at hp
  have hf := flat_len hz
  by_cases hi : i < C.length
  · rw [List.getElem?_append_left hi] at hc
    rw [List.getElem?_append_left (by omega)] at hp
    exact hl i c p hc hp
  · rw [List.getElem?_append_right (by omega)] at hc
    rw [List.getElem?_append_right (by omega), hf, ← hC] at hp
    exact hm _ c p hc hp
theorem apdV_sound {e : Bool} {t tx ty : TypeId} {cst : Array Bool} {u x : V} {a b : Value} {K : KV} (r : Rel μ Im σ w) (hu : RepV w Im μ u a) (hx : RepV w Im μ x b) (h : apdV P e t tx u x σ K) : Runs e μ Im σ w K fun k => bltK P .append #[t, tx] ty cst [a, b] w k := by
  intro k hk
  unfold apdV at h
  split at h
  · rename_i et z et' zx hel helx
    obtain ⟨ht, hz⟩ := elOf_spec hel
    obtain ⟨htx, hzx⟩ := elOf_spec helx
    split at h
    · rename_i C y hze hby
      split at h
      · rename_i hcond
        obtain ⟨hy0, hCz, rfl⟩ := hcond
        obtain ⟨m, ad, cap, D, rfl, hD, hG⟩ := rowK_sound r hx h
        unfold apdU at hG
        split at hG
        · rename_i o z' off len
          split at hG
          · rename_i hc1
            obtain ⟨rfl, rfl, rfl⟩ := hc1
            obtain ⟨ob, hob, hG⟩ := obV_sound hG
            unfold apdO at hG
            split at hG
            · rename_i z'' l
              split at hG
              · rename_i hc2
                obtain ⟨rfl, rfl, hbytes⟩ := hc2
                obtain ⟨loc, hloc, hzl, hO⟩ := r.rep _ _ hob
                cases hu with
                | @sl _ _ _ _ capu adu hs =>
                  rw [hloc] at hs
                  obtain ⟨hlc, hs⟩ := hs
                  obtain ⟨cs, hown, hcr, hfp⟩ : ∃ cs, OwnC w (.slice adu l.length capu) l.length z'' cs ∧ (∀ (i : Nat) c p, cs[i]? = some c → l.flatten[i]? = some p → RepP w Im p c) ∧ (∀ q ∈ fpv (.slice adu l.length capu), ∃ n, loc = some (q, n)) := by
                    rcases hO with ⟨rfl, rfl⟩ | ⟨bb, CC, rfl, hB, hCl, hr⟩
                    · obtain ⟨rfl, _, rfl, _⟩ := hs
                      exact ⟨[], OwnC.nil _ _, by simp, by simp [fpv]⟩
                    · obtain ⟨ha, hn⟩ := hs
                      have ha' := ha (.inr rfl)
                      simp only [Nat.zero_mul, Nat.zero_add] at ha' hn
                      subst ha'
                      refine ⟨CC.take (l.length * z''), ⟨by simp; omega, .inr ⟨bb, CC, capu, rfl, hB, hn, hlc, rfl⟩⟩, fun i c p hc hp => ?_, fun q hq => by simp [fpv] at hq; subst hq; exact ⟨_, rfl⟩⟩
                      rw [List.getElem?_take] at hc
                      split at hc
                      · exact hr i c p hc hp
                      · cases hc
                  refine append_own (ty := ty) (cst := cst) ht htx hz hby hy0 hze hCz hown hD.row hD.len hD.one (by omega) fun v' w' hv' hE hF => ?_
                  have hEl : Ext (live μ σ) w w' := hE.mono (fun q hq => by
                    obtain ⟨n, rfl⟩ := hfp q hq
                    exact .inl (mem_live.2 ⟨o, n, _, hloc, hob⟩))
                  have mn : Mono μ Im w μ Im w' := ⟨List.prefix_refl _, fun _ h => h, fun q hq => hEl.block q (r.im q hq).1 (r.im q hq).2⟩
                  obtain ⟨loc', k1, k2, k3⟩ := own_obj (Im := Im) (m := l ++ m) hv' (by simp) (fun e he => (List.mem_append.1 he).elim (hzl e) (hD.siz e)) (fun i c p hc hp => (flat_app hown.1 hzl hcr hD.rep hc hp).mono mn)
                  obtain ⟨r', s'⟩ := r.renew (loc' := loc') (ob' := .row z'' (l ++ m)) hob hloc hEl (fun c hc hne => by
                      obtain ⟨_, _, _, hc1, hc2⟩ := mem_live.1 hc
                      exact hE.block c (r.lt hc) (fun hm => by obtain ⟨n, e⟩ := hfp c hm; exact hne n e)) (fun b q e => by
                      rcases hF b (k1 b q e) with h | h
                      · exact .inl (hfp b h)
                      · exact .inr h) (k2 _)
                  refine hk _ _ _ _ _ _ r' s' (fun h => by cases h) (k3 _ _ ?_) hG
                  rw [get_snoc, if_neg (by simp [r.len]), if_pos (by simp [r.len])]
              · exact hG.elim
            · exact hG.elim
          · exact hG.elim
        · split at hG
          · rename_i hbytes
            cases hu
            refine append_own (ty := ty) (cst := cst) ht htx hz hby hy0 hze hCz (OwnC.nil w _) hD.row hD.len hD.one (by rw [Nat.zero_add]; exact hbytes) fun v' w' hv' hE hF => ?_
            have hE' : Ext [] w w' := hE.mono (by simp [fpv])
            have mn : Mono μ Im w μ Im w' := ⟨List.prefix_refl _, fun _ h => h, fun q hq => hE'.block q (r.im q hq).1 (by simp)⟩
            rw [List.nil_append, Nat.zero_add] at hv'
            obtain ⟨loc', k1, k2, k3⟩ := own_obj (Im := Im) (m := m) hv' rfl hD.siz (fun i c p hc hp => (hD.rep i c p hc hp).mono mn)
            obtain ⟨r', s'⟩ := r.add (loc := loc') (ob := .row zx m) hE' (fun b q e => by
                rcases hF b (k1 b q e) with h | h
                · simp [fpv] at h
                · exact h) (k2 _)
            refine hk _ _ _ _ _ _ r' s' (fun _ => hE') (k3 _ _ ?_) hG
            rw [get_snoc, if_neg (by simp [r.len]), if_pos (by simp [r.len])]
          · exact hG.elim
        · split at hG
          · rename_i z' l hc1
            obtain ⟨rfl, hm0, hbytes⟩ := hc1
            cases hu with
            | @xrow _ len _ adu hp =>
              cases hp with
              | @row _ _ _ _ _ CC hl hcap hzl hR hI hn ho hr =>
                subst hl
                refine append_fresh (ty := ty) (cst := cst) (n := l.length) (m := m.length) ht htx hz hby hy0 hze hCz hR hn hD.row hD.len hD.one (by omega) (by omega) fun v' w' hv' hE' hF => ?_
                have mn : Mono μ Im w μ Im w' := ⟨List.prefix_refl _, fun _ h => h, fun q hq => hE'.block q (r.im q hq).1 (by simp)⟩
                obtain ⟨loc', k1, k2, k3⟩ := own_obj (Im := Im) (m := l ++ m) hv' (by simp) (fun e he => (List.mem_append.1 he).elim (hzl e) (hD.siz e)) (fun i c p hc hp => (flat_app hn hzl hr hD.rep hc hp).mono mn)
                obtain ⟨r', s'⟩ := r.add (loc := loc') (ob := .row z' (l ++ m)) hE' (fun b q e => hF b (k1 b q e)) (k2 _)
                refine hk _ _ _ _ _ _ r' s' (fun _ => hE') (k3 _ _ ?_) hG
                rw [get_snoc, if_neg (by simp [r.len]), if_pos (by simp [r.len])]
          · exact hG.elim
        · exact hG.elim
      · exact h.elim
    · exact h.elim
  · exact h.elim
end
end Go.Vx

/-! One operation. -/
namespace Go.Vx
open Go.Eng
set_option linter.unusedSimpArgs false
set_option linter.unusedVariables false
section
variable {w w' : World} {Im : Nat → Prop} {μ : Mu} {σ : St} {ρ : Vg} {ρc : Rg} {P : Program}

theorem bltK_copy_none {t tx et ty : TypeId} {cst : Array Bool} {a ad : Option Addr} {n c cap z : Nat} {k : Kv} (ht : P.underlying t = some (.slice et)) (hz : szOf P et = some z) : bltK P .copy #[t, tx] ty cst [.slice a n c, .slice ad 0 cap] w k = k true (.int .i64 (0 : Nat)) w := by
  have hrun : (Builtin.copy_ #[t, tx] ty #[.slice a n c, .slice ad 0 cap]).run P w = .ok (.int .i64 (0 : Nat)) w := by
    unfold Builtin.copy_
    have hmin : Nat.min 0 n = 0 := Nat.min_eq_left (Nat.zero_le _)
    simp only [List.getElem?_toArray, List.getElem?_cons_zero, List.getElem?_cons_succ, Sem.run_bind, run_underlying ht, Result.andThen_ok, run_sizeOf hz, Builtin.lenOf, pure_bind, hmin]
    have hf : (Builtin.firstCells z 0 (.slice ad 0 cap)).run P w = .ok #[] w := by
      have := run_firstCells (P := P) (w := w) (a := ad) (n := 0) (z := z) (len := 0) (cap := cap) (Row.nil w ad) (by simp) (by simp)
      simpa using this
    rw [hf]
    cases a <;> rfl
  unfold bltK nextK runK builtin
  simp only [Sem.run_bind, hrun, Result.andThen_ok]
  rfl
theorem set_same {α : Type} {l : List α} {i : Nat} {x : α} (h : l[i]? = some x) : l.set i x = l := by
  apply List.ext_getElem?
  intro j
  by_cases e : i = j
  · subst e; rw [List.getElem?_set_self (get_lt h), h]
  · rw [List.getElem?_set_ne e]
theorem cpyV_sound {t tx ty : TypeId} {cst : Array Bool} {u x : V} {a b : Value} {K : KV} (r : Rel μ Im σ w) (hu : RepV w Im μ u a) (hx : RepV w Im μ x b) (h : cpyV P t tx u x σ K) : Runs false μ Im σ w K fun k => bltK P .copy #[t, tx] ty cst [a, b] w k := by
  intro k hk
  unfold cpyV at h
  split at h
  · rename_i et z et' zx hel helx
    obtain ⟨ht, hz⟩ := elOf_spec hel
    split at h
    · rename_i e
      subst e
      obtain ⟨m, ad, cap, D, rfl, hD, hG⟩ := rowK_sound r hx h
      unfold cpyU at hG
      split at hG
      · rename_i o z' off len
        split at hG
        · rename_i hc
          obtain ⟨rfl, hml⟩ := hc
          obtain ⟨ob, hob, hG⟩ := obV_sound hG
          unfold cpyO at hG
          split at hG
          · rename_i z'' l
            split at hG
            · rename_i hc2
              obtain ⟨rfl, hle⟩ := hc2
              cases hu with
              | @sl _ _ _ _ capu adu hs =>
                obtain ⟨hlc, hs⟩ := hs
                by_cases hm0 : m.length = 0
                · have : m = [] := List.length_eq_zero_iff.1 hm0
                  subst this
                  have e1 : (l.take off ++ [] ++ l.drop (off + ([] : List (List PV)).length)) = l := by simp
                  rw [e1, set_same hob] at hG
                  have e2 : ([] : List (List PV)).length = 0 := rfl
                  rw [e2] at hG ⊢
                  rw [bltK_copy_none ht hz]
                  exact hk _ _ _ _ _ _ r (Stp.refl _ _ _ _) (fun h => by cases h) (.lit rfl) hG
                · obtain ⟨loc, hloc, hzl, hO⟩ := r.rep _ _ hob
                  rw [hloc] at hs
                  rcases hO with ⟨rfl, rfl⟩ | ⟨bb, CC, rfl, hB, hCl, hr⟩
                  · obtain ⟨_, h0, _⟩ := hs; omega
                  · obtain ⟨ha, hn⟩ := hs
                    have ha' := ha (.inl (by omega))
                    subst ha'
                    have hmz : off * z'' + m.length * z'' ≤ l.length * z'' := by rw [← Nat.add_mul]; exact Nat.mul_le_mul_right z'' (by omega)
                    have hDl := hD.len
                    rw [bltK_copy (P := P) ht hz hB hD.row hD.len hD.one hml (by omega)]
                    have hE : Ext [bb] w (if D = [] then w else setB w bb (setL CC (off * z'') D)) := by
                      split
                      · exact Ext.refl _ _
                      · exact setB_ext _ _ _
                    have hlive : bb ∈ live μ σ := mem_live.2 ⟨o, _, _, hloc, hob⟩
                    have mn : Mono μ Im w μ Im (if D = [] then w else setB w bb (setL CC (off * z'') D)) := ⟨List.prefix_refl _, fun _ h => h, fun q hq => hE.block q (r.im q hq).1 (by
                      simp only [List.mem_singleton]
                      intro e
                      subst e
                      exact (r.im q hq).2 hlive)⟩
                    have hB' : Blk (if D = [] then w else setB w bb (setL CC (off * z'') D)) bb (setL CC (off * z'') D) := by
                      split
                      · rename_i e; subst e; simpa [setL] using hB
                      · exact setB_heap hB
                    have hlen : (setL CC (off * z'') D).length = CC.length := setL_length _ _ _
                    have hzm : ∀ e ∈ l.take off ++ m ++ l.drop (off + m.length), e.length = z'' := by
                      intro e he
                      simp only [List.mem_append] at he
                      rcases he with (he | he) | he
                      · exact hzl e (List.mem_of_mem_take he)
                      · exact hD.siz e he
                      · exact hzl e (List.mem_of_mem_drop he)
                    have hflat : (l.take off ++ m ++ l.drop (off + m.length)).flatten = l.flatten.take (off * z'') ++ m.flatten ++ l.flatten.drop (off * z'' + m.length * z'') := by
                      rw [List.flatten_append, List.flatten_append, flat_take off hzl, flat_drop _ hzl, Nat.add_mul]
                    have hlf := flat_len hzl
                    have hmf := flat_len hD.siz
                    obtain ⟨r', s'⟩ := r.upd (ob' := .row z'' (l.take off ++ m ++ l.drop (off + m.length))) hob hloc hE ⟨hzm, .inr ⟨bb, setL CC (off * z'') D, by rw [hlen], hB', by
                        rw [hlen]
                        have : (l.take off ++ m ++ l.drop (off + m.length)).length = l.length := by simp; omega
                        rw [this]; exact hCl, fun i c p hc hp => by
                        rw [setL_get _ _ _ _ (by omega)] at hc
                        rw [hflat] at hp
                        by_cases h1 : i < off * z''
                        · rw [if_neg (by omega)] at hc
                          rw [List.append_assoc, List.getElem?_append_left (by simp only [List.length_take, List.length_append, List.length_drop]; omega), List.getElem?_take, if_pos h1] at hp
                          exact (hr i c p hc hp).mono mn
                        · by_cases h2 : i < off * z'' + m.length * z''
                          · rw [if_pos (by omega)] at hc
                            rw [List.append_assoc, List.getElem?_append_right (by simp only [List.length_take, List.length_append, List.length_drop]; omega), List.getElem?_append_left (by simp only [List.length_take, List.length_append, List.length_drop]; omega)] at hp
                            refine (hD.rep _ c p hc ?_).mono mn
                            rw [← hp]
                            congr 1
                            simp only [List.length_take, List.length_append, List.length_drop]
                            omega
                          · rw [if_neg (by omega)] at hc
                            rw [List.append_assoc, List.getElem?_append_right (by simp only [List.length_take, List.length_append, List.length_drop]; omega), List.getElem?_append_right (by simp only [List.length_take, List.length_append, List.length_drop]; omega), List.getElem?_drop] at hp
                            refine (hr i c p hc ?_).mono mn
                            rw [← hp]
                            congr 1
                            simp only [List.length_take, List.length_append, List.length_drop]
                            omega⟩⟩
                    exact hk _ _ _ _ _ _ r' s' (fun h => by cases h) (.lit rfl) hG
            · exact hG.elim
          · exact hG.elim
        · exact hG.elim
      · exact hG.elim
    · exact h.elim
  · exact h.elim
theorem lenV_sound {t et ty : TypeId} {z : Nat} {cst : Array Bool} {u : V} {a : Value} {F : FV} (hel : elOf P t = some (et, z)) (hu : RepV w Im μ u a) (h : lenV u F) : Comes w Im μ F fun w' k => bltK P .len #[t] ty cst [a] w' k := by
  obtain ⟨ht, _⟩ := elOf_spec hel
  unfold lenV at h
  split at h
  · cases hu with
    | row hp => cases hp with
      | row hl _ _ _ _ _ _ _ => subst hl; exact ⟨_, _, .lit rfl, h, fun _ _ => bltK_len_slice ht⟩
  · cases hu with
    | xrow hp => cases hp with
      | row hl _ _ _ _ _ _ _ => subst hl; exact ⟨_, _, .lit rfl, h, fun _ _ => bltK_len_slice ht⟩
  · cases hu with
    | sl _ => exact ⟨_, _, .lit rfl, h, fun _ _ => bltK_len_slice ht⟩
  · cases hu
    exact ⟨_, _, .lit rfl, h, fun _ _ => bltK_len_slice ht⟩
  · exact h.elim
theorem intsV_sound : ∀ {us : List V} {vs : List Value} {l : List (IntKind × Int)}, RepL w Im μ us vs → intsV us = some l → vs = l.map fun x => .int x.1 x.2
  | [], vs, l, hr, h => by
    cases h
    exact List.length_eq_zero_iff.1 (by simpa using hr.1)
  | u :: us, vs, l, hr, h => by
    obtain ⟨v, vs, rfl, h1, h2⟩ := hr.uncons
    unfold intsV at h
    split at h
    · rename_i h0
      cases h0
    · rename_i i a r e
      cases e
      cases h1
      cases hi : intsV us with
      | none => rw [hi] at h; cases h
      | some l' =>
        rw [hi] at h
        cases h
        rw [intsV_sound h2 hi]
        rfl
    · cases h
theorem mm_fold {b : Builtin} {m2 : Value → Value → Sem Value} (hm : ∀ i j (x y : Int) (w : World), (m2 (.int i x) (.int j y)).run P w = .ok (.int i (mnmx b x y)) w) : ∀ (r : List (IntKind × Int)) (i : IntKind) (a : Int) (w' : World),
    ((r.map fun x => Value.int x.1 x.2).foldlM m2 (.int i a)).run P w' = .ok (.int i (r.foldl (fun q x => mnmx b q x.2) a)) w'
  | [], i, a, w' => rfl
  | x :: r, i, a, w' => by
    rw [List.map_cons, List.foldlM_cons, Sem.run_bind, hm, Result.andThen_ok, mm_fold hm r]
    rfl
theorem min_sound {ats : Array TypeId} {ty : TypeId} {cst : Array Bool} {us : List V} {vs : List Value} {F : FV} (hr : RepL w Im μ us vs) (h : mmV .min us F) : Comes w Im μ F fun w' k => bltK P .min ats ty cst vs w' k := by
  unfold mmV at h
  split at h
  · rename_i i a r hi
    refine ⟨_, _, .lit rfl, h, fun w' k => ?_⟩
    have e := intsV_sound hr hi
    subst e
    have hrun := mm_fold (P := P) (b := .min) (m2 := Builtin.min2) (fun i j x y w => by
      have e : (if y < x then y else x) = min x y := by rw [Int.min_def]; split <;> split <;> omega
      show (pure (Value.int i (if y < x then y else x)) : Sem Value).run P w = _
      rw [e]
      rfl) r i a w'
    show resK ((Builtin.min_ ats ty (((i, a) :: r).map fun x => Value.int x.1 x.2).toArray >>= fun v => pure (Next.value v) : Sem Next).run P w') _ = _
    rw [Sem.run_bind]
    have e2 : Builtin.min_ ats ty (((i, a) :: r).map fun x => Value.int x.1 x.2).toArray = (r.map fun x => Value.int x.1 x.2).foldlM Builtin.min2 (.int i a) := rfl
    rw [e2, hrun]
    rfl
  · exact h.elim
theorem max_sound {ats : Array TypeId} {ty : TypeId} {cst : Array Bool} {us : List V} {vs : List Value} {F : FV} (hr : RepL w Im μ us vs) (h : mmV .max us F) : Comes w Im μ F fun w' k => bltK P .max ats ty cst vs w' k := by
  unfold mmV at h
  split at h
  · rename_i i a r hi
    refine ⟨_, _, .lit rfl, h, fun w' k => ?_⟩
    have e := intsV_sound hr hi
    subst e
    have hrun := mm_fold (P := P) (b := .max) (m2 := Builtin.max2) (fun i j x y w => by
      have e : (if y > x then y else x) = max x y := by rw [Int.max_def]; split <;> split <;> omega
      show (pure (Value.int i (if y > x then y else x)) : Sem Value).run P w = _
      rw [e]
      rfl) r i a w'
    show resK ((Builtin.max_ ats ty (((i, a) :: r).map fun x => Value.int x.1 x.2).toArray >>= fun v => pure (Next.value v) : Sem Next).run P w') _ = _
    rw [Sem.run_bind]
    have e2 : Builtin.max_ ats ty (((i, a) :: r).map fun x => Value.int x.1 x.2).toArray = (r.map fun x => Value.int x.1 x.2).foldlM Builtin.max2 (.int i a) := rfl
    rw [e2, hrun]
    rfl
  · exact h.elim

/-- What touches no memory runs. -/
theorem Comes.runs {e : Bool} {K : KV} {op : World → Kv → Prop} (r : Rel μ Im σ w) (h : Comes w Im μ (fun τ u => K τ u σ) op) : Runs e μ Im σ w K fun k => op w k := by
  intro k hk
  obtain ⟨u, v, h1, h2, h3⟩ := h
  rw [h3]
  exact hk _ _ _ _ _ _ r (Stp.refl _ _ _ _) (fun _ => Ext.refl _ _) h1 h2
theorem callV_sound {e : Bool} {f : Nat} {us : List V} {vs : List Value} {K : KV} (r : Rel μ Im σ w) (hr : RepL w Im μ us vs) (h : callV P e f us σ K) : Runs e μ Im σ w K fun k => callK P f vs.toArray w k := by
  intro k hk
  obtain ⟨hc, h⟩ := h
  exact cllK_of hc (h μ Im w vs r hr) fun v w' ⟨u, σ', μ', Im', h1, h2, h3, h4, h5⟩ => hk _ _ _ _ _ _ h1 h2 h3 h4 h5
theorem bltV_sound {e : Bool} {b : Builtin} {al : List TypeId} {ty : TypeId} {cst : Array Bool} {us : List V} {vs : List Value} {K : KV} (r : Rel μ Im σ w) (h4 : RepL w Im μ us vs) (h5 : bltV P e b al us σ K) : Runs e μ Im σ w K fun k => bltK P b al.toArray ty cst vs w k := by
  unfold bltV at h5
  split at h5
  · split at h5
    · rename_i t u _ ez hel
      obtain ⟨et, z⟩ := ez
      obtain ⟨v, vs', rfl, q1, q2⟩ := h4.uncons
      have : vs' = [] := List.length_eq_zero_iff.1 (by simpa using q2.1)
      subst this
      exact (lenV_sound hel q1 h5).runs r
    · exact h5.elim
  · obtain ⟨v, vs', rfl, q1, q2⟩ := h4.uncons
    obtain ⟨v2, vs', rfl, q3, q4⟩ := q2.uncons
    have : vs' = [] := List.length_eq_zero_iff.1 (by simpa using q4.1)
    subst this
    exact apdV_sound r q1 q3 h5
  · obtain ⟨v, vs', rfl, q1, q2⟩ := h4.uncons
    obtain ⟨v2, vs', rfl, q3, q4⟩ := q2.uncons
    have : vs' = [] := List.length_eq_zero_iff.1 (by simpa using q4.1)
    subst this
    cases e with
    | true => exact (h5 : False).elim
    | false => exact cpyV_sound r q1 q3 h5
  · exact (min_sound h4 h5).runs r
  · exact (max_sound h4 h5).runs r
  · exact h5.elim
set_option maxHeartbeats 2000000 in
/-- **One operation.** -/
theorem opV_sound {τ e : Bool} {o : Oper} {K : KV} (r : Rel μ Im σ w) (hg : RepG w Im μ ρ ρc) (h : opV τ e P o ρ σ K) : Runs e μ Im σ w K fun k => opK true P o ρc w k := by
  obtain ⟨d, op, ty, pos, af, g⟩ := o
  have plain : valV τ P ⟨d, op, ty, pos, af, g⟩ ρ (fun τ u => K τ u σ) → Runs e μ Im σ w K fun k => opK true P ⟨d, op, ty, pos, af, g⟩ ρc w k := fun h => (valV_sound hg h).runs r
  unfold opV at h
  cases op with
  | alloc t => exact alcV_sound r h
  | box t x =>
    intro k hk
    obtain ⟨u, a, h1, h2, h3⟩ := evV_sound hg h
    show evK ρc x fun v => boxK P t v w k
    rw [h3]
    exact boxV_sound r h1 h2 k hk
  | build t ps =>
    intro k hk
    obtain ⟨js, us, vs, h0, h1, h2, h3⟩ := evpV_sound hg h
    show evpK ρc ps.toList fun vs => bldK P t vs w k
    rw [h3]
    exact (bldV_sound h0 h1 h2).runs r k hk
  | buildSlice t n ps =>
    intro k hk
    obtain ⟨js, us, vs, h0, h1, h2, h3⟩ := evpV_sound hg h
    show evpK ρc ps.toList fun vs => bslK P t n vs w k
    rw [h3]
    exact bslV_sound r h0 h1 h2 k hk
  | load t x =>
    intro k hk
    obtain ⟨u, a, h1, h2, h3⟩ := evV_sound hg h
    show evK ρc x fun v => loadK P t v w k
    rw [h3]
    obtain ⟨u', v', h4, h5, h6⟩ := ldV_sound r h1 h2
    rw [h6]
    exact hk _ _ _ _ _ _ r (Stp.refl _ _ _ _) (fun _ => Ext.refl _ _) h4 h5
  | store t x y =>
    intro k hk
    obtain ⟨u, a, h1, h2, h3⟩ := evV_sound hg h
    obtain ⟨u', a', h4, h5, h6⟩ := evV_sound hg h2
    cases e with
    | true =>
      show evK ρc x fun a => evK ρc y fun v => storeK P t a v w fun τ w' => k τ undef w'
      rw [h3, h6]
      obtain ⟨q1, q2⟩ := stE_sound r h1 h4 h5
      rw [q2]
      exact hk _ _ _ _ _ _ r (Stp.refl _ _ _ _) (fun _ => Ext.refl _ _) (.tup (C := []) rfl (fun i u c h => by simp at h)) q1
    | false =>
      show evK ρc x fun a => evK ρc y fun v => storeK P t a v w fun τ w' => k τ undef w'
      rw [h3, h6]
      obtain ⟨w', σ', q1, q2, q3, q4⟩ := stV_sound r h1 h4 h5
      rw [q4]
      exact hk _ _ _ _ _ _ q1 q2 (fun h => by cases h) (.tup (C := []) rfl (fun i u c h => by simp at h)) q3
  | makeFunc fn first captured =>
    intro k hk
    dsimp only at h
    split at h
    · rename_i f hf
      obtain ⟨us, vs, h1, h2, h3⟩ := evsV_sound hg h
      show evsK ρc first.toList fun f' => evsK ρc captured.toList fun c => k true (.func (.func f) f'.toArray c.toArray) w
      rw [hf]
      show evsK ρc captured.toList fun c => k true (.func (.func f) #[] c.toArray) w
      rw [h3]
      exact hk _ _ _ _ _ _ r (Stp.refl _ _ _ _) (fun _ => Ext.refl _ _) (.clo h1.1 h1.2) h2
    · exact h.elim
  | makeSlice t l c =>
    intro k hk
    obtain ⟨u, a, h1, h2, h3⟩ := evV_sound hg h
    obtain ⟨u', a', h4, h5, h6⟩ := evV_sound hg h2
    show evK ρc l fun l => evK ρc c fun c => msl P t l c w k
    rw [h3, h6]
    exact mslV_sound r h1 h4 h5 k hk
  | call c =>
    obtain ⟨callee, args, ats⟩ := c
    intro k hk
    dsimp only at h
    cases callee with
    | value f =>
      obtain ⟨u, a, h1, h2, h3⟩ := evV_sound hg h
      obtain ⟨us, vs, h4, h5, h6⟩ := evsV_sound hg h2
      show evK ρc f fun f => evsK ρc args.toList fun args => match f with | .func (.func g) first captured => callK P g (first ++ args.toArray ++ captured) w k | _ => False
      rw [h3, h6]
      unfold calV at h5
      split at h5
      · cases h1 with
        | @clo f l C hn hr =>
          have e : (#[] ++ vs.toArray ++ C.toArray : Array Value) = (vs ++ C).toArray := by simp
          show callK P _ (#[] ++ vs.toArray ++ C.toArray) w k
          rw [e]
          exact callV_sound r (h4.append ⟨hn, hr⟩) h5 k hk
      · exact h5.elim
    | builtin b =>
      obtain ⟨us, vs, h4, h5, h6⟩ := evsV_sound hg h
      have hargs : args = args.toList.toArray := by simp
      have hats : ats = ats.toList.toArray := by simp
      rw [hargs, opK_builtin, h6]
      generalize args.toList = al at *
      generalize ats.toList = tl at *
      subst hats
      exact bltV_sound r h4 h5 k hk
    | _ => exact h.elim
  | _ => dsimp only at h; exact plain h
end
end Go.Vx

/-! Matching: a state among others; what is dropped. -/
namespace Go.Vx
open Go.Eng
set_option linter.unusedSimpArgs false
set_option linter.unusedVariables false

/-! ### One state in another: objects by a list of numbers (none: a slice that is nil) -/
abbrev Pi := List (Option Nat)
def mRow (ob : Ob) (z off len : Nat) (l : List (List PV)) : Prop := match ob with
  | .row z'' l' => z = z'' ∧ off + len ≤ l'.length ∧ l = (l'.drop off).take len
  | _ => False
mutual
/-- The first is told of what the second is; a slice of the call's own may be told as one that nobody changes where 'ok' says so. -/
def mV (ok : Nat → Bool) (π : Pi) (σ : St) : V → V → Prop
  | .lit v, u => u = .lit v
  | .row z l, u => (match u with
    | .row z' l' => z = z' ∧ l = l'
    | .xrow z' l' => z = z' ∧ l = l'
    | .lit (.slice none 0 0) => l = []
    | .sl o z' off len => z = z' ∧ ok o = true ∧ obV σ o fun ob => mRow ob z off len l
    | _ => False)
  | .xrow z l, u => (match u with | .xrow z' l' => z = z' ∧ l = l' | _ => False)
  | .ref o z i off, u => (match u with | .ref o' z' i' off' => π[o]? = some (some o') ∧ z = z' ∧ i = i' ∧ off = off' | _ => False)
  | .sl o z off len, u => (match u with
    | .sl o' z' off' len' => π[o]? = some (some o') ∧ z = z' ∧ off = off' ∧ len = len'
    | .lit (.slice none 0 0) => π[o]? = some none ∧ off = 0 ∧ len = 0
    | _ => False)
  | .rref z l i off, u => (match u with | .rref z' l' i' off' => z = z' ∧ l = l' ∧ i = i' ∧ off = off' | _ => False)
  | .agg l, u => (match u with | .agg m => mVs ok π σ l m | _ => False)
  | .tup l, u => (match u with | .tup m => mVs ok π σ l m | _ => False)
  | .clo f l, u => (match u with | .clo g m => f = g ∧ mVs ok π σ l m | _ => False)
def mVs (ok : Nat → Bool) (π : Pi) (σ : St) : List V → List V → Prop
  | [], [] => True
  | u :: us, v :: vs => mV ok π σ u v ∧ mVs ok π σ us vs
  | _, _ => False
end
def mO (ok : Nat → Bool) (π : Pi) (σ : St) : Ob → Ob → Prop
  | .cells l, .cells m => mVs ok π σ l m
  | .row z l, .row z' m => z = z' ∧ l = m
  | _, _ => False
def mSt (ok : Nat → Bool) (π : Pi) (σ : St) : St → Pi → Prop
  | [], [] => True
  | none :: s, _ :: ps => mSt ok π σ s ps
  | some ob :: s, some o :: ps => (obV σ o fun ob' => mO ok π σ ob ob') ∧ mSt ok π σ s ps
  | some (.row _ l) :: s, none :: ps => l = [] ∧ mSt ok π σ s ps
  | _, _ => False
def mG (ok : Nat → Bool) (π : Pi) (σ : St) : Vg → Vg → Prop
  | [], _ => True
  | (t, u) :: r, ρ => (lkV ρ t fun v => mV ok π σ u v) ∧ mG ok π σ r ρ
/-- No number twice. -/
def ndp (π : Pi) : Bool := decide ((π.filterMap id).Nodup)
/-- The numbers of what is told as being there. -/
def lvp : Pi → St → List Nat
  | some o :: π, some _ :: s => o :: lvp π s
  | _ :: π, _ :: s => lvp π s
  | _, _ => []
def ndl (π : Pi) (s : St) : Bool := decide (lvp π s).Nodup
/-- The first k stay where they are. -/
def kfix (k : Nat) (π : Pi) : Bool := (List.range k).all fun i => π[i]? == some (some i)
def okN (π : Pi) (o : Nat) : Bool := !π.contains (some o)
def Emb (k : Nat) (π : Pi) (ρ₀ : Vg) (σ₀ : St) (ρ : Vg) (σ : St) : Prop := (ndl π σ₀ && kfix k π) = true ∧ mSt (okN π) π σ σ₀ π ∧ mG (okN π) π σ ρ₀ ρ
def EmbR (k : Nat) (π : Pi) (u₀ : V) (σ₀ : St) (u : V) (σ : St) : Prop := (ndl π σ₀ && kfix k π) = true ∧ mSt (okN π) π σ σ₀ π ∧ mV (okN π) π σ u₀ u

section
variable {w : World} {Im Im' : Nat → Prop} {μ : Mu} {σ : St} {π : Pi} {ok : Nat → Bool}

def muOf (μ : Mu) (π : Pi) : Mu := π.map fun p => match p with | some o => (μ[o]?).getD none | none => none
theorem muOf_some {j o : Nat} (h : π[j]? = some (some o)) : (muOf μ π)[j]? = some ((μ[o]?).getD none) := by simp [muOf, h]
theorem muOf_none {j : Nat} (h : π[j]? = some none) : (muOf μ π)[j]? = some none := by simp [muOf, h]
/-- What is told as unchanged is so. -/
structure Frz (μ : Mu) (Im : Nat → Prop) (σ : St) (ok : Nat → Bool) (Im' : Nat → Prop) : Prop where
  old : ∀ b, Im b → Im' b
  new : ∀ (o : Nat) b n ob, ok o = true → σ[o]? = some (some ob) → μ[o]? = some (some (b, n)) → Im' b

theorem RepP.im {p : PV} {v : Value} (h : RepP w Im p v) (hI : ∀ b, Im b → Im' b) : RepP w Im' p v :=
  h.mono (μ := []) (μ' := []) ⟨List.prefix_refl _, hI, fun _ _ => rfl⟩
theorem row_of_sl {o z off len cap : Nat} {a : Option Addr} {l : List (List PV)} (r : Rel μ Im σ w) (fz : Frz μ Im σ ok Im') (hok : ok o = true) (hob : σ[o]? = some (some (.row z l))) (hle : off + len ≤ l.length) (hs : SlOk μ[o]? z off len a cap) :
    RepP w Im' (.row z ((l.drop off).take len)) (.slice a len cap) := by
  have hrow : rowK (.sl o z off len) σ z (fun m => m = (l.drop off).take len) := by
    unfold rowK
    simp only [if_true]
    unfold obV atK rowO
    rw [hob]
    simp only [true_and]
    rw [if_pos hle]
    trivial
  obtain ⟨m, ad, cp, C, e, hR, hG⟩ := rowK_sound r (RepV.sl hs) hrow
  subst hG
  injection e with e1 e2 e3
  subst e1 e3
  refine .row (C := C) (by simp; omega) hs.1 hR.siz hR.row (fun hne => ?_) (by rw [hR.len, ← e2]) hR.one (fun i c p h1 h2 => (hR.rep i c p h1 h2).im fz.old)
  obtain ⟨loc, hloc, hz, hO⟩ := r.rep _ _ hob
  rw [hloc] at hs
  obtain ⟨hlc, hs⟩ := hs
  rcases hO with ⟨rfl, rfl⟩ | ⟨b, D, rfl, hB, hCl, hr⟩
  · obtain ⟨_, rfl, _⟩ := hs
    exact absurd (List.length_eq_zero_iff.1 (by rw [hR.len]; simp)) hne
  · have hlen : 0 < len := by
      rcases Nat.eq_zero_or_pos len with h | h
      · subst h
        exact absurd (List.length_eq_zero_iff.1 (by rw [hR.len]; simp)) hne
      · exact h
    rw [hs.1 (.inl hlen)]
    exact fz.new o b _ _ hok hob hloc

mutual
theorem mV_sound (r : Rel μ Im σ w) (fz : Frz μ Im σ ok Im') : ∀ {u₀ u : V} {v : Value}, mV ok π σ u₀ u → RepV w Im μ u v → RepV w Im' (muOf μ π) u₀ v
  | .lit x, u, v, h, hu => by
    unfold mV at h
    subst h
    cases hu with | lit h => exact .lit h
  | .row z l, u, v, h, hu => by
    unfold mV at h
    split at h
    · obtain ⟨rfl, rfl⟩ := h
      cases hu with | row h => exact .row (h.im fz.old)
    · obtain ⟨rfl, rfl⟩ := h
      cases hu with | xrow h => exact .row (h.im fz.old)
    · subst h
      cases hu
      exact .row (.row (C := []) rfl (Nat.le_refl _) (by simp) (Row.nil _ _) (fun h => absurd rfl h) (by simp) (by simp) (by simp))
    · obtain ⟨rfl, hok, h⟩ := h
      obtain ⟨ob, hob, h⟩ := obV_sound h
      unfold mRow at h
      split at h
      · obtain ⟨rfl, hle, rfl⟩ := h
        cases hu with | sl hs => exact .row (row_of_sl r fz hok hob hle hs)
      · exact h.elim
    · exact h.elim
  | .xrow z l, u, v, h, hu => by
    unfold mV at h
    split at h
    · obtain ⟨rfl, rfl⟩ := h
      cases hu with | xrow h => exact .xrow (h.im fz.old)
    · exact h.elim
  | .ref o z i off, u, v, h, hu => by
    unfold mV at h
    split at h
    · obtain ⟨hp, rfl, rfl, rfl⟩ := h
      cases hu with | ref hm => exact .ref (by rw [muOf_some hp, hm]; rfl)
    · exact h.elim
  | .sl o z off len, u, v, h, hu => by
    unfold mV at h
    split at h
    · obtain ⟨hp, rfl, rfl, rfl⟩ := h
      cases hu with
      | sl hs =>
        obtain ⟨x, hx⟩ := hs.some
        refine .sl ?_
        rw [muOf_some hp, hx]
        rw [hx] at hs
        exact hs
    · obtain ⟨hp, rfl, rfl⟩ := h
      cases hu
      exact .sl ⟨Nat.le_refl _, by rw [muOf_none hp]; exact ⟨rfl, rfl, rfl, rfl⟩⟩
    · exact h.elim
  | .rref z l i off, u, v, h, hu => by
    unfold mV at h
    split at h
    · obtain ⟨rfl, rfl, rfl, rfl⟩ := h
      cases hu with
      | rref q1 q2 q3 q4 q5 q6 => exact .rref q1 q2 (fun h => fz.old _ (q3 h)) q4 q5 (fun i c p h1 h2 => (q6 i c p h1 h2).im fz.old)
    · exact h.elim
  | .agg l, u, v, h, hu => by
    unfold mV at h
    split at h
    · cases hu with
      | agg hn ho hr =>
        have := mVs_sound r fz h ⟨hn, hr⟩
        exact .agg this.1 ho this.2
    · exact h.elim
  | .tup l, u, v, h, hu => by
    unfold mV at h
    split at h
    · cases hu with
      | tup hn hr =>
        have := mVs_sound r fz h ⟨hn, hr⟩
        exact .tup this.1 this.2
    · exact h.elim
  | .clo f l, u, v, h, hu => by
    unfold mV at h
    split at h
    · obtain ⟨rfl, h⟩ := h
      cases hu with
      | clo hn hr =>
        have := mVs_sound r fz h ⟨hn, hr⟩
        exact .clo this.1 this.2
    · exact h.elim
theorem mVs_sound (r : Rel μ Im σ w) (fz : Frz μ Im σ ok Im') : ∀ {us₀ us : List V} {vs : List Value}, mVs ok π σ us₀ us → RepL w Im μ us vs → RepL w Im' (muOf μ π) us₀ vs
  | [], [], vs, _, hr => ⟨hr.1, by simp⟩
  | u₀ :: us₀, u :: us, vs, h, hr => by
    unfold mVs at h
    obtain ⟨v, vs, rfl, h1, h2⟩ := hr.uncons
    exact .cons (mV_sound r fz h.1 h1) (mVs_sound r fz h.2 h2)
  | [], _ :: _, _, h, _ => by simp [mVs] at h
  | _ :: _, [], _, h, _ => by simp [mVs] at h
end
theorem mSt_spec : ∀ {s : St} {ps : Pi}, mSt ok π σ s ps → s.length = ps.length ∧ ∀ (j : Nat) ob, s[j]? = some (some ob) → (∃ o ob', ps[j]? = some (some o) ∧ σ[o]? = some (some ob') ∧ mO ok π σ ob ob') ∨ (ps[j]? = some none ∧ ∃ z, ob = .row z [])
  | [], [], _ => ⟨rfl, fun j ob h => by simp at h⟩
  | none :: s, p :: ps, h => by
    unfold mSt at h
    obtain ⟨h1, h2⟩ := mSt_spec h
    refine ⟨by simp [h1], fun j ob hj => ?_⟩
    cases j with
    | zero => simp at hj
    | succ j => simpa using h2 j ob (by simpa using hj)
  | some ob :: s, some o :: ps, h => by
    unfold mSt at h
    obtain ⟨h1, h2⟩ := mSt_spec h.2
    refine ⟨by simp [h1], fun j ob' hj => ?_⟩
    cases j with
    | zero =>
      simp at hj
      subst hj
      obtain ⟨ob'', h3, h4⟩ := obV_sound h.1
      exact .inl ⟨o, ob'', rfl, h3, h4⟩
    | succ j => simpa using h2 j ob' (by simpa using hj)
  | some (.row z l) :: s, none :: ps, h => by
    unfold mSt at h
    obtain ⟨h1, h2⟩ := mSt_spec h.2
    refine ⟨by simp [h1], fun j ob' hj => ?_⟩
    cases j with
    | zero =>
      simp at hj
      subst hj
      obtain ⟨rfl, _⟩ := h
      exact .inr ⟨rfl, z, rfl⟩
    | succ j => simpa using h2 j ob' (by simpa using hj)
  | some (.cells l) :: s, none :: ps, h => by simp [mSt] at h
  | [], _ :: _, h => by simp [mSt] at h
  | none :: _, [], h => by simp [mSt] at h
  | some _ :: _, [], h => by simp [mSt] at h
theorem mO_sound (r : Rel μ Im σ w) (fz : Frz μ Im σ ok Im') {loc : Option (Nat × Nat)} {ob₀ ob : Ob} (h : mO ok π σ ob₀ ob) (ho : RepO w Im μ loc ob) : RepO w Im' (muOf μ π) loc ob₀ := by
  unfold mO at h
  split at h
  · obtain ⟨b, C, e, hB, hone, hL⟩ := ho
    exact ⟨b, C, e, hB, hone, mVs_sound r fz h hL⟩
  · obtain ⟨rfl, rfl⟩ := h
    obtain ⟨hz, hO⟩ := ho
    refine ⟨hz, hO.imp id ?_⟩
    rintro ⟨b, C, e, hB, hl, hr⟩
    exact ⟨b, C, e, hB, hl, fun i c p h1 h2 => (hr i c p h1 h2).im fz.old⟩
  · exact h.elim
theorem lvp_mem : ∀ {π : Pi} {s : St} {j o : Nat} {ob : Ob}, π[j]? = some (some o) → s[j]? = some (some ob) → o ∈ lvp π s
  | [], _, j, _, _, h, _ => by simp at h
  | _ :: _, [], j, _, _, _, h => by simp at h
  | p :: π, x :: s, 0, o, ob, h1, h2 => by
    simp at h1 h2
    subst h1 h2
    simp [lvp]
  | p :: π, x :: s, j + 1, o, ob, h1, h2 => by
    have ih := lvp_mem (π := π) (s := s) (j := j) (by simpa using h1) (by simpa using h2)
    cases p <;> cases x <;> simp [lvp, ih]
theorem ndl_inj {s : St} (h : ndl π s = true) {i j o : Nat} {ob ob' : Ob} (h1 : π[i]? = some (some o)) (h2 : π[j]? = some (some o)) (l1 : s[i]? = some (some ob)) (l2 : s[j]? = some (some ob')) : i = j := by
  have aux : ∀ (π : Pi) (s : St), (lvp π s).Nodup → ∀ (i j : Nat) (ob ob' : Ob), π[i]? = some (some o) → π[j]? = some (some o) → s[i]? = some (some ob) → s[j]? = some (some ob') → i = j := by
    intro π
    induction π with
    | nil => intro s _ i j _ _ h; simp at h
    | cons p π ih =>
      intro s hn i j ob ob' h1 h2 l1 l2
      cases s with
      | nil => simp at l1
      | cons x s =>
        cases i with
        | zero =>
          cases j with
          | zero => rfl
          | succ j =>
            simp at h1 l1
            subst h1 l1
            simp only [lvp, List.nodup_cons] at hn
            exact absurd (lvp_mem (by simpa using h2) (by simpa using l2)) hn.1
        | succ i =>
          cases j with
          | zero =>
            simp at h2 l2
            subst h2 l2
            simp only [lvp, List.nodup_cons] at hn
            exact absurd (lvp_mem (by simpa using h1) (by simpa using l1)) hn.1
          | succ j =>
            have hn' : (lvp π s).Nodup := by
              cases p <;> cases x <;> simp only [lvp, List.nodup_cons] at hn <;> first | exact hn | exact hn.2
            rw [ih s hn' i j ob ob' (by simpa using h1) (by simpa using h2) (by simpa using l1) (by simpa using l2)]
  exact aux π s (of_decide_eq_true h) i j ob ob' h1 h2 l1 l2
theorem ndl_of_ndp {s : St} (h : ndp π = true) : ndl π s = true := by
  have aux : ∀ (π : Pi) (s : St), (π.filterMap id).Nodup → (lvp π s).Nodup ∧ ∀ o, o ∈ lvp π s → o ∈ π.filterMap id := by
    intro π
    induction π with
    | nil => intro s _; simp [lvp]
    | cons p π ih =>
      intro s hn
      cases s with
      | nil => cases p <;> simp [lvp]
      | cons x s =>
        cases p with
        | none =>
          simp only [List.filterMap_cons, id] at hn ⊢
          have := ih s hn
          cases x <;> simpa [lvp] using this
        | some o =>
          simp only [List.filterMap_cons, id, List.nodup_cons] at hn ⊢
          obtain ⟨h1, h2⟩ := ih s hn.2
          cases x with
          | none => exact ⟨h1, fun q hq => List.mem_cons_of_mem _ (h2 q hq)⟩
          | some ob =>
            simp only [lvp, List.nodup_cons]
            refine ⟨⟨fun h => hn.1 (h2 o h), h1⟩, fun q hq => ?_⟩
            rcases List.mem_cons.1 hq with rfl | hq
            · exact List.mem_cons_self ..
            · exact List.mem_cons_of_mem _ (h2 q hq)
  exact decide_eq_true (aux π s (of_decide_eq_true h)).1
/-- The part of a state that is kept. -/
theorem Rel.part {σ₀ : St} (r : Rel μ Im σ w) (fz : Frz μ Im σ ok Im') (hok : ∀ (j o : Nat), π[j]? = some (some o) → ok o = false) (hn : ndl π σ₀ = true) (h : mSt ok π σ σ₀ π)
    (hI : ∀ b, Im' b → Im b ∨ ∃ (o n : Nat) (ob : Ob), ok o = true ∧ σ[o]? = some (some ob) ∧ μ[o]? = some (some (b, n))) : Rel (muOf μ π) Im' σ₀ w ∧ ∀ b ∈ live (muOf μ π) σ₀, b ∈ live μ σ := by
  obtain ⟨hl, hs⟩ := mSt_spec h
  have back : ∀ (j : Nat) ob₀ b n, σ₀[j]? = some (some ob₀) → (muOf μ π)[j]? = some (some (b, n)) → ∃ o ob, π[j]? = some (some o) ∧ σ[o]? = some (some ob) ∧ μ[o]? = some (some (b, n)) := by
    intro j ob₀ b n h1 h2
    rcases hs j ob₀ h1 with ⟨o, ob, h3, h4, _⟩ | ⟨h3, _⟩
    · rw [muOf_some h3] at h2
      obtain ⟨loc, h5, _⟩ := r.rep o ob h4
      rw [h5] at h2
      exact ⟨o, ob, h3, h4, by rw [h5]; simpa using h2⟩
    · rw [muOf_none h3] at h2
      cases h2
  have hlive : ∀ b ∈ live (muOf μ π) σ₀, b ∈ live μ σ := by
    intro b hb
    obtain ⟨j, n, ob₀, h1, h2⟩ := mem_live.1 hb
    obtain ⟨o, ob, _, h4, h5⟩ := back j ob₀ b n h2 h1
    exact mem_live.2 ⟨o, n, ob, h5, h4⟩
  refine ⟨⟨by simp [muOf, hl], fun j ob₀ hj => ?_, fun i j q q' b n n' h1 h2 h3 h4 => ?_, fun b hb => ?_⟩, hlive⟩
  · rcases hs j ob₀ hj with ⟨o, ob, h3, h4, h5⟩ | ⟨h3, z, rfl⟩
    · obtain ⟨loc, h6, h7⟩ := r.rep o ob h4
      exact ⟨loc, by rw [muOf_some h3, h6]; rfl, mO_sound r fz h5 h7⟩
    · exact ⟨none, muOf_none h3, by simp, .inl ⟨rfl, rfl⟩⟩
  · obtain ⟨o, ob, e1, e2, e3⟩ := back i q b n h1 h3
    obtain ⟨o', ob', e4, e5, e6⟩ := back j q' b n' h2 h4
    have := r.inj o o' ob ob' b n n' e2 e5 e3 e6
    subst this
    exact ndl_inj hn e1 e4 h1 h2
  · rcases hI b hb with h1 | ⟨o, n, ob, h1, h2, h3⟩
    · exact ⟨(r.im b h1).1, fun h => (r.im b h1).2 (hlive b h)⟩
    · refine ⟨r.lt (mem_live.2 ⟨o, n, ob, h3, h2⟩), fun h => ?_⟩
      obtain ⟨j, m, ob₀, h4, h5⟩ := mem_live.1 h
      obtain ⟨o', ob', h6, h7, h8⟩ := back j ob₀ b m h5 h4
      have := r.inj o o' ob ob' b n m h2 h7 h3 h8
      subst this
      rw [hok j o h6] at h1
      cases h1
end
end Go.Vx

/-! Code. -/
namespace Go.Vx
open Go.Eng
set_option linter.unusedSimpArgs false
set_option linter.unusedVariables false

abbrev KR := Bool → Vg → St → Prop
abbrev PostV := Bool → Exit → Vg → St → Prop

def gdV (g : V) (want : Bool) (A B : Bool → Prop) : Prop := match g with
  | .lit (.bool b) => if b = want then A true else B true
  | .tup [] => B true
  | _ => False
def cdV (v : V) (A B : Bool → Prop) : Prop := match v with
  | .lit (.bool b) => (b = true → A true) ∧ (b = false → B true)
  | _ => False
def putV (ρ : Vg) (d : Option Tmp) (v : V) : Vg := match d with
  | some d => (d, v) :: ρ
  | none => ρ
def opsV (τ : Bool) (P : Program) (all : Array Oper) : List Oper → Vg → St → KR → Prop
  | [], ρ, σ, K => K true ρ σ
  | o :: r, ρ, σ, K =>
    match o.guard with
    | none => opV τ false P o ρ σ fun τ v σ' => opsV τ P all r (putV ρ o.dst v) σ' K
    | some (j, want) =>
      match (all[j]?).bind (·.dst) with
      | some t => lkV ρ t fun g => gdV g want (fun τ => opV τ false P o ρ σ fun τ v σ' => opsV τ P all r (putV ρ o.dst v) σ' K) (fun τ => opsV τ P all r (putV ρ o.dst (.tup [])) σ K)
      | none => False
/-- What reads alone. -/
def mldV (τ : Bool) (P : Program) (o : Oper) (ρ : Vg) (σ : St) (F : FV) : Prop := match o.op with
  | .load t x => evV ρ x fun u => ldV P t u σ F
  | .call c => (match c.callee, c.argTypes.toList with
    | .builtin .len, [t] => evsV ρ c.args.toList fun us => bltV P true .len [t] us σ fun τ v _ => F τ v
    | _, _ => False)
  | _ => valV τ P o ρ F
theorem len_run {P : Program} {t et ty : TypeId} {cst : Array Bool} {x : Option Addr} {n c : Nat} {w : World} (ht : P.underlying t = some (.slice et)) : (builtin .len #[t] ty cst #[.slice x n c]).run P w = .ok (.value (.int .i64 n)) w := by
  unfold builtin Builtin.len_
  simp only [Sem.run_bind, List.getElem?_toArray, List.getElem?_cons_zero]
  simp only [run_underlying ht, Result.andThen_ok]
  rfl
theorem lenV_run {P : Program} {t et ty : TypeId} {z : Nat} {cst : Array Bool} {u : V} {a : Value} {F : FV} {w : World} {Im : Nat → Prop} {μ : Mu} (hel : elOf P t = some (et, z)) (hu : RepV w Im μ u a) (h : lenV u F) :
    ∃ u' v, RepV w Im μ u' v ∧ F true u' ∧ ∀ w', (builtin .len #[t] ty cst #[a]).run P w' = .ok (.value v) w' := by
  obtain ⟨ht, _⟩ := elOf_spec hel
  unfold lenV at h
  split at h
  · cases hu with
    | row hp => cases hp with
      | row hl _ _ _ _ _ _ _ => subst hl; exact ⟨_, _, .lit rfl, h, fun _ => len_run ht⟩
  · cases hu with
    | xrow hp => cases hp with
      | row hl _ _ _ _ _ _ _ => subst hl; exact ⟨_, _, .lit rfl, h, fun _ => len_run ht⟩
  · cases hu with
    | sl _ => exact ⟨_, _, .lit rfl, h, fun _ => len_run ht⟩
  · cases hu
    exact ⟨_, _, .lit rfl, h, fun _ => len_run ht⟩
  · exact h.elim
def runV (τ : Bool) (P : Program) (o : Oper) (ρ : Vg) (σ : St) (tag : Nat) (k : KV) : Prop := match tag with
  | 0 => mldV τ P o ρ σ fun τ v => k τ v σ
  | 1 => opV τ true P o ρ σ k
  | _ => opV τ false P o ρ σ k
def stepV (τ : Bool) (P : Program) (all : Array Oper) (o : Oper) (ρ : Vg) (σ : St) (tag : Nat) (K : KR) : Prop :=
  match o.guard with
  | none => runV τ P o ρ σ tag fun τ v σ' => K τ (putV ρ o.dst v) σ'
  | some (j, want) =>
    match (all[j]?).bind (·.dst) with
    | some t => lkV ρ t fun g => gdV g want (fun τ => runV τ P o ρ σ tag fun τ v σ' => K τ (putV ρ o.dst v) σ') (fun τ => K τ (putV ρ o.dst (.tup [])) σ)
    | none => False
def hldV (τ : Bool) (P : Program) (all : Array Oper) : List (Nat × Nat) → Vg → St → KR → Prop
  | [], ρ, σ, K => K true ρ σ
  | (i, t) :: r, ρ, σ, K => nthK all.toList i fun o => stepV τ P all o ρ σ t fun τ ρ' σ' => hldV τ P all r ρ' σ' K
def thenV (K : KR) (Q : PostV) : PostV := fun τ e ρ σ => match e with
  | .normal => K τ ρ σ
  | e => Q τ e ρ σ
def blockV (id : Nat) (Q : PostV) : PostV := fun τ e ρ σ => match e with
  | .exit i => if i = id then Q τ .normal ρ σ else Q τ (.exit i) ρ σ
  | e => Q τ e ρ σ
/-- A loop, by what holds at its head; k: so many blocks are the callers'. -/
def LoopV (k : Nat) (body : Vg → St → PostV → Prop) (ρ : Vg) (σ : St) (Q : PostV) : Prop :=
  ∃ I : Nat → Vg → St → Prop, (∃ m π ρ₀ σ₀, Emb k π ρ₀ σ₀ ρ σ ∧ I m ρ₀ σ₀) ∧
    ∀ m ρ σ, I m ρ σ → body ρ σ (thenV (fun _ ρ' σ' => ∃ m' π ρ₀ σ₀, m' < m ∧ Emb k π ρ₀ σ₀ ρ' σ' ∧ I m' ρ₀ σ₀) Q)
abbrev Plans := Nat → List (Nat × Nat)
def scopeV (Q : PostV) : PostV := fun τ e ρ σ => match e with
  | .goto _ => False
  | e => Q τ e ρ σ
def denV (τ : Bool) (P : Program) (k : Nat) (pl : Plans) : Code → Vg → St → PostV → Prop
  | .skip, ρ, σ, Q => Q true .normal ρ σ
  | .region id ops draw, ρ, σ, Q => bif draw then hldV τ P ops (pl id) ρ σ fun τ => Q τ .normal else opsV τ P ops ops.toList ρ σ fun τ => Q τ .normal
  | .seq a b, ρ, σ, Q => denV τ P k pl a ρ σ (thenV (fun τ ρ' σ' => denV τ P k pl b ρ' σ' Q) Q)
  | .cond c a b, ρ, σ, Q => evV ρ c fun v => cdV v (fun τ => denV τ P k pl a ρ σ Q) (fun τ => denV τ P k pl b ρ σ Q)
  | .block id c, ρ, σ, Q => denV τ P k pl c ρ σ (blockV id Q)
  | .loop c, ρ, σ, Q => LoopV k (denV true P k pl c) ρ σ Q
  | .exit id, ρ, σ, Q => Q true (.exit id) ρ σ
  | .ret, ρ, σ, Q => Q true .ret ρ σ
  | .scope c, ρ, σ, Q => denV τ P k pl c ρ σ (scopeV Q)
  | .label _, ρ, σ, Q => Q true .normal ρ σ
  | _, _, _, _ => False
/-- The code's regions have plans, and its registers a place. -/
def chk (n : Nat) (pl : Plans) : Code → Bool
  | .region id ops draw => (ops.toList.all fun o => o.dst.all (· < n)) && (!draw || (Region.noSelect ops && (ops.size == (pl id).length) && schedB .any ops (fun j => (pl id).any fun p => p.1 == j && p.2 == 2) (Array.replicate ops.size false) (pl id)))
  | .seq a b => chk n pl a && chk n pl b
  | .cond _ a b => chk n pl a && chk n pl b
  | .block _ c => chk n pl c
  | .loop c => chk n pl c
  | .scope c => chk n pl c
  | _ => true

structure Stq (k : Nat) (μ : Mu) (Im : Nat → Prop) (σ : St) (w : World) (μ' : Mu) (Im' : Nat → Prop) (σ' : St) (w' : World) : Prop where
  pre : ∀ i, i < k → μ'[i]? = μ[i]?
  im : ∀ b, Im b → Im' b
  ext : Ext (live μ σ) w w'
  live : ∀ b ∈ live μ' σ', b ∈ live μ σ ∨ w.heap.size ≤ b
  fresh : ∀ b, Im' b → Im b ∨ b ∈ Vx.live μ σ ∨ w.heap.size ≤ b
theorem Stp.toq {k : Nat} {μ μ' : Mu} {Im Im' : Nat → Prop} {σ σ' : St} {w w' : World} (h : Stp μ Im σ w μ' Im' σ' w') (hk : k ≤ μ.length) : Stq k μ Im σ w μ' Im' σ' w' :=
  ⟨fun i hi => by
    obtain ⟨t, e⟩ := h.pre
    rw [← e, List.getElem?_append_left (by omega)], h.im, h.ext, h.live, h.fresh⟩
theorem Stq.trans {k : Nat} {μ μ' μ'' : Mu} {Im Im' Im'' : Nat → Prop} {σ σ' σ'' : St} {w w' w'' : World} (h : Stq k μ Im σ w μ' Im' σ' w') (j : Stq k μ' Im' σ' w' μ'' Im'' σ'' w'') : Stq k μ Im σ w μ'' Im'' σ'' w'' := by
  have hz := h.ext.size
  refine ⟨fun i hi => by rw [j.pre i hi, h.pre i hi], fun b hb => j.im b (h.im b hb), h.ext.trans j.ext h.live, fun b hb => ?_, fun b hb => ?_⟩
  · rcases j.live b hb with h1 | h1
    · exact h.live b h1
    · exact .inr (by omega)
  · rcases j.fresh b hb with h1 | h1 | h1
    · exact h.fresh b h1
    · rcases h.live b h1 with h2 | h2
      · exact .inr (.inl h2)
      · exact .inr (.inr h2)
    · exact .inr (.inr (by omega))

section
variable {P : Program} {k n : Nat} {pl : Plans}

/-- What holds of registers behind. -/
def TrK (k : Nat) (μ : Mu) (Im : Nat → Prop) (σ : St) (w : World) (K : KR) (Kc : Kr) : Prop :=
  ∀ ρ' σ' μ' Im' w' ρc, Rel μ' Im' σ' w' → Stq k μ Im σ w μ' Im' σ' w' → RepG w' Im' μ' ρ' ρc → k ≤ μ'.length → K true ρ' σ' → Kc true ρc w'
def TrQ (k : Nat) (μ : Mu) (Im : Nat → Prop) (σ : St) (w : World) (Q : PostV) (Qc : Post) : Prop :=
  ∀ e ρ' σ' μ' Im' w' ρc, Rel μ' Im' σ' w' → Stq k μ Im σ w μ' Im' σ' w' → RepG w' Im' μ' ρ' ρc → k ≤ μ'.length → Q true e ρ' σ' → Qc true e ρc w'
theorem Stp.len {μ μ' : Mu} {Im Im' : Nat → Prop} {σ σ' : St} {w w' : World} (h : Stp μ Im σ w μ' Im' σ' w') : μ.length ≤ μ'.length := h.pre.length_le
theorem RepG.put {w : World} {Im : Nat → Prop} {μ : Mu} {ρ : Vg} {ρc : Rg} (h : RepG w Im μ ρ ρc) (d : Option Tmp) {u : V} {v : Value} (hv : RepV w Im μ u v) : RepG w Im μ (putV ρ d u) (put ρc d v) := by
  cases d with
  | none => exact h
  | some d => exact h.cons d hv
theorem rep_undef {w : World} {Im : Nat → Prop} {μ : Mu} : RepV w Im μ (.tup []) undef := .tup (C := []) rfl (fun i u c h => by simp at h)
theorem gdV_sound {w : World} {Im : Nat → Prop} {μ : Mu} {g : V} {v : Value} {want : Bool} {A B A' B' : Bool → Prop} (hg : RepV w Im μ g v) (h : gdV g want A B) (hA : A true → A' true) (hB : B true → B' true) : gdK v want A' B' := by
  unfold gdV at h
  split at h
  · cases hg
    unfold gdK
    split at h
    · rename_i hb; show (if _ = want then _ else _); rw [if_pos hb]; exact hA h
    · rename_i hb; show (if _ = want then _ else _); rw [if_neg hb]; exact hB h
  · cases hg with
    | @tup _ C hn _ =>
      have : C = [] := List.length_eq_zero_iff.1 hn
      subst this
      exact hB h
  · exact h.elim
theorem ops_sound {all : Array Oper} {K : KR} {Kc : Kr} : ∀ (l : List Oper) (τ : Bool) (ρ : Vg) (σ : St) (μ : Mu) (Im : Nat → Prop) (w : World) (ρc : Rg), k ≤ μ.length → Rel μ Im σ w → RepG w Im μ ρ ρc → TrK k μ Im σ w K Kc → opsV τ P all l ρ σ K → opsK true P all l ρc w Kc
  | [], τ, ρ, σ, μ, Im, w, ρc, hk, r, hg, tr, h => tr ρ σ μ Im w ρc r ((Stp.refl _ _ _ _).toq hk) hg hk h
  | o :: l, τ, ρ, σ, μ, Im, w, ρc, hk, r, hg, tr, h => by
    have run : ∀ {τ τ' : Bool}, opV τ false P o ρ σ (fun τ v σ' => opsV τ P all l (putV ρ o.dst v) σ' K) → opK true P o ρc w fun τ v w' => opsK τ P all l (put ρc o.dst v) w' Kc := fun {τ τ'} h' => by
      refine opV_sound r hg h' (fun τ v w' => opsK τ P all l (put ρc o.dst v) w' Kc) fun v w' u σ' μ' Im' r' s' _ hv hK => ?_
      have hk' : k ≤ μ'.length := Nat.le_trans hk s'.len
      exact ops_sound l true _ σ' μ' Im' w' _ hk' r' ((hg.mono (s'.mono r)).put _ hv) (fun ρ'' σ'' μ'' Im'' w'' ρc' r'' s'' => tr ρ'' σ'' μ'' Im'' w'' ρc' r'' ((s'.toq hk).trans s'')) hK
    unfold opsV at h
    unfold opsK
    cases hgd : o.guard with
    | none =>
      rw [hgd] at h
      exact run (τ' := true) h
    | some jw =>
      obtain ⟨j, want⟩ := jw
      rw [hgd] at h
      simp only at h ⊢
      cases ht : (all[j]?).bind (·.dst) with
      | none => rw [ht] at h; exact h.elim
      | some t =>
        rw [ht] at h
        simp only at h ⊢
        obtain ⟨g, gv, h1, h2, h3⟩ := lkV_sound hg h
        rw [h3]
        exact gdV_sound h1 h2 (fun h => run (τ' := true) h) (fun h => ops_sound l true _ σ μ Im w _ hk r (hg.put _ rep_undef) tr h)

theorem mldV_sound {τ : Bool} {o : Oper} {ρ : Vg} {σ : St} {F : FV} {μ : Mu} {Im : Nat → Prop} {w : World} {ρc : Rg} {kk : Bool → Value → Prop} (r : Rel μ Im σ w) (hg : RepG w Im μ ρ ρc) (h : mldV τ P o ρ σ F) (hk : ∀ u v, RepV w Im μ u v → F true u → kk true v) : mldK true P o ρc w kk := by
  obtain ⟨d, op, ty, pos, af, g⟩ := o
  have val : valV τ P ⟨d, op, ty, pos, af, g⟩ ρ F → ∃ v, kk true v ∧ ∀ w' (k : Kv), opK true P ⟨d, op, ty, pos, af, g⟩ ρc w' k = k true v w' := fun h => by
    obtain ⟨u, v, h1, h2, h3⟩ := valV_sound hg h
    exact ⟨v, hk u v h1 h2, h3⟩
  have any : valV τ P ⟨d, op, ty, pos, af, g⟩ ρ F → anyE w (fun w' v => opK true P ⟨d, op, ty, pos, af, g⟩ ρc w' fun _ u w'' => w'' = w' ∧ u = v) kk := fun h => by
    obtain ⟨v, h1, h2⟩ := val h
    exact ⟨v, fun w' _ => by dsimp only; rw [h2]; exact ⟨rfl, rfl⟩, h1⟩
  unfold mldV at h
  cases op with
  | load t x =>
    obtain ⟨u, a, h1, h2, h3⟩ := evV_sound hg h
    show evK ρc x fun a => loadK P t a w fun τ v _ => kk τ v
    rw [h3]
    obtain ⟨u', v', h4, h5, h6⟩ := ldV_sound r h1 h2
    rw [h6]
    exact hk u' v' h4 h5
  | move x =>
    obtain ⟨u, a, h1, h2, h3⟩ := evV_sound hg (h : evV ρ x fun u => F true u)
    show evK ρc x fun v => kk true v
    rw [h3]
    exact hk u a h1 h2
  | assign x =>
    obtain ⟨u, a, h1, h2, h3⟩ := evV_sound hg (h : evV ρ x fun u => F true u)
    show evK ρc x fun v => kk true v
    rw [h3]
    exact hk u a h1 h2
  | pick => exact any h
  | binOp => exact any h
  | unOp => exact any h
  | convert => exact any h
  | slice => exact any h
  | fieldAddr => exact any h
  | field => exact any h
  | indexAddr => exact any h
  | index => exact any h
  | extract => exact any h
  | nilCheck => exact any h
  | call c =>
    obtain ⟨callee, args, ats⟩ := c
    cases callee with
    | builtin b =>
      cases b with
      | len =>
        obtain ⟨atl⟩ := ats
        match atl, h with
        | [t], h =>
          have h : evsV ρ args.toList fun us => bltV P true .len [t] us σ fun τ v _ => F τ v := h
          obtain ⟨us, vs, h4, h5, h6⟩ := evsV_sound hg h
          show evsK ρc args.toList fun args' => ∃ v, (∀ w', Ext [] w w' → (builtin .len #[t] ty (args.map fun | .const _ => true | _ => false) args'.toArray).run P w' = .ok (.value v) w') ∧ kk true v
          rw [h6]
          match us, h5 with
          | [u], h5 =>
            cases hel : elOf P t with
            | none => simp [bltV, hel] at h5
            | some ez =>
              have h5 : lenV u F := by simpa [bltV, hel] using h5
              obtain ⟨a, vs', rfl, h7, h8⟩ := h4.uncons
              have : vs' = [] := List.length_eq_zero_iff.1 (by simpa using h8.1)
              subst this
              obtain ⟨u', v, q1, q2, q3⟩ := lenV_run (et := ez.1) (z := ez.2) hel h7 h5
              exact ⟨v, fun w' _ => q3 w', hk u' v q1 q2⟩
      | _ => exact (h : False).elim
    | _ => exact (h : False).elim
  | _ => exact (h : False).elim
theorem hld_soundV {all : Array Oper} {K : KR} {Kc : Kr} : ∀ (S : List (Nat × Nat)) (τ : Bool) (ρ : Vg) (σ : St) (μ : Mu) (Im : Nat → Prop) (w : World) (ρc : Rg), k ≤ μ.length → Rel μ Im σ w → RepG w Im μ ρ ρc → TrK k μ Im σ w K Kc → hldV τ P all S ρ σ K → hldK true P all S ρc w Kc
  | [], τ, ρ, σ, μ, Im, w, ρc, hk, r, hg, tr, h => tr ρ σ μ Im w ρc r ((Stp.refl _ _ _ _).toq hk) hg hk h
  | (i, t) :: S, τ, ρ, σ, μ, Im, w, ρc, hk, r, hg, tr, h => by
    obtain ⟨o, ho, h⟩ := nthK_get (F := fun o => stepV τ P all o ρ σ t fun τ ρ' σ' => hldV τ P all S ρ' σ' K) h
    have nth : ∀ (l : List Oper) (i : Nat) (F : Oper → Prop), l[i]? = some o → F o → nthK l i F := by
      intro l
      induction l with
      | nil => intro i F h; simp at h
      | cons x l ih =>
        intro i F h hF
        cases i with
        | zero => simp at h; subst h; exact hF
        | succ i => exact ih i F (by simpa using h) hF
    refine nth _ _ _ ho ?_
    have next : ∀ {v : Value} {w' : World} {u : V} {σ' : St} {μ' : Mu} {Im' : Nat → Prop}, Rel μ' Im' σ' w' → Stp μ Im σ w μ' Im' σ' w' → RepV w' Im' μ' u v → hldV true P all S (putV ρ o.dst u) σ' K → hldK true P all S (put ρc o.dst v) w' Kc := fun {v w' u σ' μ' Im'} r' s' hv hK =>
      hld_soundV S true _ σ' μ' Im' w' _ (Nat.le_trans hk s'.len) r' ((hg.mono (s'.mono r)).put _ hv) (fun ρ'' σ'' μ'' Im'' w'' ρc' r'' s'' => tr ρ'' σ'' μ'' Im'' w'' ρc' r'' ((s'.toq hk).trans s'')) hK
    have run : ∀ {τ : Bool}, runV τ P o ρ σ t (fun τ v σ' => hldV τ P all S (putV ρ o.dst v) σ' K) → Eng.runT true P o ρc w t fun τ v w' => hldK τ P all S (put ρc o.dst v) w' Kc := fun {τ} h' => by
      unfold runV at h'
      unfold Eng.runT
      split at h'
      · exact mldV_sound r hg h' fun u v hv hK => next r (Stp.refl _ _ _ _) hv hK
      · exact opV_sound r hg h' (fun τ v w' => Ext [] w w' ∧ hldK τ P all S (put ρc o.dst v) w' Kc) fun v w' u σ' μ' Im' r' s' he hv hK => ⟨he rfl, next r' s' hv hK⟩
      · rename_i h0 h1
        have e : ∀ {A B C : Prop}, (match t with | 0 => A | 1 => B | _ => C) = C := by
          intro A B C
          match t, h0, h1 with
          | 0, h0, _ => exact absurd rfl h0
          | 1, _, h1 => exact absurd rfl h1
          | n + 2, _, _ => rfl
        split
        · exact absurd rfl h0
        · exact absurd rfl h1
        · exact opV_sound r hg h' (fun τ v w' => hldK τ P all S (put ρc o.dst v) w' Kc) fun v w' u σ' μ' Im' r' s' _ hv hK => next r' s' hv hK
    unfold stepV at h
    unfold stepK
    cases hgd : o.guard with
    | none =>
      rw [hgd] at h
      exact run h
    | some jw =>
      obtain ⟨j, want⟩ := jw
      rw [hgd] at h
      simp only at h ⊢
      cases ht : (all[j]?).bind (·.dst) with
      | none => rw [ht] at h; exact h.elim
      | some t' =>
        rw [ht] at h
        simp only at h ⊢
        obtain ⟨g, gv, h1, h2, h3⟩ := lkV_sound hg h
        rw [h3]
        exact gdV_sound h1 h2 (fun h => run h) (fun h => next r (Stp.refl _ _ _ _) rep_undef h)

/-- What is dropped stays as it is. -/
theorem Emb.part {π : Pi} {ρ₀ ρ : Vg} {σ₀ σ : St} {μ : Mu} {Im : Nat → Prop} {w : World} (h : Emb k π ρ₀ σ₀ ρ σ) (r : Rel μ Im σ w) (hkm : k ≤ μ.length) :
    ∃ Im', Rel (muOf μ π) Im' σ₀ w ∧ Stq k μ Im σ w (muOf μ π) Im' σ₀ w ∧ k ≤ (muOf μ π).length ∧ Frz μ Im σ (okN π) Im' := by
  obtain ⟨h0, hs, hg⟩ := h
  simp only [Bool.and_eq_true] at h0
  obtain ⟨hn, hk⟩ := h0
  have fz : Frz μ Im σ (okN π) fun b => Im b ∨ ∃ (o n : Nat) (ob : Ob), okN π o = true ∧ σ[o]? = some (some ob) ∧ μ[o]? = some (some (b, n)) := ⟨fun b hb => .inl hb, fun o b n ob h1 h2 h3 => .inr ⟨o, n, ob, h1, h2, h3⟩⟩
  obtain ⟨r', hl⟩ := r.part fz (fun j o hj => by
    unfold okN
    simp only [Bool.not_eq_false']
    exact List.contains_iff_mem.2 (List.mem_of_getElem? hj)) hn hs (fun b hb => hb)
  have kf : ∀ i, i < k → π[i]? = some (some i) := fun i hi => by
    have := List.all_eq_true.1 hk i (List.mem_range.2 hi)
    simpa using this
  refine ⟨_, r', ⟨fun i hi => ?_, fun b hb => .inl hb, Ext.refl _ _, fun b hb => .inl (hl b hb), fun b hb => ?_⟩, ?_, fz⟩
  · rw [muOf_some (kf i hi)]
    obtain ⟨hsl, hss⟩ := mSt_spec hs
    rw [List.getElem?_eq_getElem (by omega)]
    rfl
  · rcases hb with h | ⟨o, n, ob, h1, h2, h3⟩
    · exact .inl h
    · exact .inr (.inl (mem_live.2 ⟨o, n, ob, h3, h2⟩))
  · simp only [muOf, List.length_map]
    rcases Nat.lt_or_ge π.length k with h | h
    · have := kf π.length h
      simp at this
    · exact h

theorem lkV_get {w : World} {Im : Nat → Prop} {μ : Mu} {ρ : Vg} {ρc : Rg} {t : Nat} {K : V → Prop} (hg : RepG w Im μ ρ ρc) (h : lkV ρ t K) : ∃ u v, fd ρc t = some v ∧ RepV w Im μ u v ∧ K u := by
  unfold lkV at h
  cases hf : fdV ρ t with
  | none => rw [hf] at h; exact h.elim
  | some u =>
    rw [hf] at h
    obtain ⟨v, h1, h2⟩ := hg t u hf
    exact ⟨u, v, h1, h2, h⟩
theorem Sub.refl (ρ : Rg) : Sub ρ ρ := fun _ _ h => h
/-- **Code.** -/
theorem denV_sound : ∀ (c : Code), chk n pl c = true → ∀ (τ : Bool) (ρ : Vg) (σ : St) (μ : Mu) (Im : Nat → Prop) (w : World) (ρc : Rg) (Q : PostV) (Qc : Post), P.follows .mixedOrders = true → k ≤ μ.length → Rel μ Im σ w → RepG w Im μ ρ ρc → TrQ k μ Im σ w Q Qc → denV τ P k pl c ρ σ Q → den true P n c ρc w Qc
  | .skip, _, τ, ρ, σ, μ, Im, w, ρc, Q, Qc, hm, hk, r, hg, tr, h => tr _ ρ σ μ Im w ρc r ((Stp.refl _ _ _ _).toq hk) hg hk h
  | .region id ops draw, hc, τ, ρ, σ, μ, Im, w, ρc, Q, Qc, hm, hk, r, hg, tr, h => by
    simp only [chk, Bool.and_eq_true] at hc
    cases draw with
    | true =>
      simp only [Bool.not_true, Bool.false_or] at hc
      have hops : ops = ops.toList.toArray := by simp
      show DrawK P n id ops ρc w Qc
      rw [hops]
      refine DrawK_held (pl id) hm (by rw [← hops]; simpa using hc.2) hc.1 ?_
      rw [← hops]
      have mn : Mono μ Im w μ Im w.drew := ⟨List.prefix_refl _, fun _ h => h, fun _ _ => rfl⟩
      have r' : Rel μ Im σ w.drew := ⟨r.len, fun o ob ho => by
        obtain ⟨loc, h1, h2⟩ := r.rep o ob ho
        exact ⟨loc, h1, h2.mono mn fun _ _ _ => rfl⟩, r.inj, r.im⟩
      have s' : Stp μ Im σ w μ Im σ w.drew := ⟨List.prefix_refl _, fun _ h => h, (Ext.refl _ _).drew, fun _ h => .inl h, fun _ h => .inl h⟩
      exact hld_soundV (K := fun τ => Q τ .normal) (Kc := fun τ => Qc τ .normal) (pl id) τ ρ σ μ Im w.drew ρc hk r' (hg.mono mn) (fun ρ' σ' μ' Im' w' ρc' r'' s'' => tr _ ρ' σ' μ' Im' w' ρc' r'' ((s'.toq hk).trans s'')) h
    | false => exact ops_sound (K := fun τ => Q τ .normal) (Kc := fun τ => Qc τ .normal) _ τ ρ σ μ Im w ρc hk r hg (fun ρ' σ' μ' Im' w' ρc' => tr _ ρ' σ' μ' Im' w' ρc') h
  | .seq a b, hc, τ, ρ, σ, μ, Im, w, ρc, Q, Qc, hm, hk, r, hg, tr, h => by
    simp only [chk, Bool.and_eq_true] at hc
    refine denV_sound a hc.1 τ ρ σ μ Im w ρc _ _ hm hk r hg ?_ (h : denV τ P k pl a ρ σ _)
    intro e ρ' σ' μ' Im' w' ρc' r' s' hg' hk' hq
    cases e with
    | normal => exact denV_sound b hc.2 true ρ' σ' μ' Im' w' ρc' Q Qc hm hk' r' hg' (fun e ρ'' σ'' μ'' Im'' w'' ρc'' r'' s'' => tr e ρ'' σ'' μ'' Im'' w'' ρc'' r'' (s'.trans s'')) hq
    | _ => exact tr _ ρ' σ' μ' Im' w' ρc' r' s' hg' hk' hq
  | .cond c a b, hc, τ, ρ, σ, μ, Im, w, ρc, Q, Qc, hm, hk, r, hg, tr, h => by
    simp only [chk, Bool.and_eq_true] at hc
    obtain ⟨u, v, h1, h2, h3⟩ := evV_sound hg (h : evV ρ c _)
    show evK ρc c fun v => cdK v (fun τ => den τ P n a ρc w Qc) (fun τ => den τ P n b ρc w Qc)
    rw [h3]
    unfold cdV at h2
    split at h2
    · cases h1
      exact ⟨fun e => denV_sound a hc.1 true ρ σ μ Im w ρc Q Qc hm hk r hg tr (h2.1 e), fun e => denV_sound b hc.2 true ρ σ μ Im w ρc Q Qc hm hk r hg tr (h2.2 e)⟩
    · exact h2.elim
  | .block id c, hc, τ, ρ, σ, μ, Im, w, ρc, Q, Qc, hm, hk, r, hg, tr, h => by
    refine denV_sound c hc τ ρ σ μ Im w ρc _ _ hm hk r hg ?_ (h : denV τ P k pl c ρ σ _)
    intro e ρ' σ' μ' Im' w' ρc' r' s' hg' hk' hq
    cases e with
    | exit i =>
      simp only [blockV] at hq
      simp only [blockQ]
      split at hq
      · rw [if_pos ‹_›]; exact tr _ ρ' σ' μ' Im' w' ρc' r' s' hg' hk' hq
      · rw [if_neg ‹_›]; exact tr _ ρ' σ' μ' Im' w' ρc' r' s' hg' hk' hq
    | _ => exact tr _ ρ' σ' μ' Im' w' ρc' r' s' hg' hk' hq
  | .loop c, hc, τ, ρ, σ, μ, Im, w, ρc, Q, Qc, hm, hk, r, hg, tr, h => by
    obtain ⟨I, ⟨m₀, π, ρ₀, σ₀, hE, hI⟩, round⟩ := (h : LoopV k (denV true P k pl c) ρ σ Q)
    have enter : ∀ {π : Pi} {ρ₀ ρ : Vg} {σ₀ σ : St} {μ' : Mu} {Im' : Nat → Prop} {w' : World} {ρc' : Rg}, Emb k π ρ₀ σ₀ ρ σ → Rel μ' Im' σ w' → RepG w' Im' μ' ρ ρc' → k ≤ μ'.length →
        ∃ Im'', Rel (muOf μ' π) Im'' σ₀ w' ∧ Stq k μ' Im' σ w' (muOf μ' π) Im'' σ₀ w' ∧ RepG w' Im'' (muOf μ' π) ρ₀ ρc' ∧ k ≤ (muOf μ' π).length := by
      intro π ρ₀ ρ σ₀ σ μ' Im' w' ρc' hE r' hg' hk'
      obtain ⟨Im'', h1, h2, h3, fz⟩ := hE.part r' hk'
      refine ⟨Im'', h1, h2, ?_, h3⟩
      have hG := hE.2.2
      have aux : ∀ (ρ₀ : Vg), mG (okN π) π σ ρ₀ ρ → RepG w' Im'' (muOf μ' π) ρ₀ ρc' := by
        intro ρ₀
        induction ρ₀ with
        | nil => intro _ t u ht; simp [fdV] at ht
        | cons x ρ₀ ih =>
          obtain ⟨s, u⟩ := x
          intro hG t u' ht
          unfold mG at hG
          rw [fdV_cons] at ht
          split at ht
          · rename_i e
            subst e
            cases ht
            obtain ⟨v, vc, h4, h5, h6⟩ := lkV_get hg' hG.1
            exact ⟨_, h4, mV_sound r' fz h6 h5⟩
          · exact ih hG.2 t u' ht
      exact aux ρ₀ hG
    obtain ⟨Im₁, r₁, s₁, g₁, k₁⟩ := enter hE r hg hk
    refine ⟨fun m ρc' w' => ∃ ρ' σ' μ' Im', I m ρ' σ' ∧ Rel μ' Im' σ' w' ∧ Stq k μ Im σ w μ' Im' σ' w' ∧ RepG w' Im' μ' ρ' ρc' ∧ k ≤ μ'.length, ⟨m₀, ρc, Sub.refl _, ρ₀, σ₀, _, Im₁, hI, r₁, s₁, g₁, k₁⟩, ?_⟩
    rintro m ρc' w' ⟨ρ', σ', μ', Im', hI', r', s', g', k'⟩
    refine denV_sound c hc true ρ' σ' μ' Im' w' ρc' _ _ hm k' r' g' ?_ (round m ρ' σ' hI')
    intro e ρ'' σ'' μ'' Im'' w'' ρc'' r'' s'' g'' k'' hq
    cases e with
    | normal =>
      obtain ⟨m', π', ρ₁, σ₁, hlt, hE', hI''⟩ := hq
      obtain ⟨Im₂, r₂, s₂, g₂, k₂⟩ := enter hE' r'' g'' k''
      exact ⟨m', ρc'', hlt, Sub.refl _, ρ₁, σ₁, _, Im₂, hI'', r₂, (s'.trans s'').trans s₂, g₂, k₂⟩
    | _ => exact tr _ ρ'' σ'' μ'' Im'' w'' ρc'' r'' (s'.trans s'') g'' k'' hq
  | .exit id, _, τ, ρ, σ, μ, Im, w, ρc, Q, Qc, hm, hk, r, hg, tr, h => tr _ ρ σ μ Im w ρc r ((Stp.refl _ _ _ _).toq hk) hg hk h
  | .ret, _, τ, ρ, σ, μ, Im, w, ρc, Q, Qc, hm, hk, r, hg, tr, h => tr _ ρ σ μ Im w ρc r ((Stp.refl _ _ _ _).toq hk) hg hk h
  | .rangeFunc .., _, _, _, _, _, _, _, _, _, _, _, _, _, _, _, h => (h : False).elim
  | .scope c, hc, τ, ρ, σ, μ, Im, w, ρc, Q, Qc, hm, hk, r, hg, tr, h => by
    refine denV_sound c hc τ ρ σ μ Im w ρc _ (scopeQ Qc) hm hk r hg ?_ (h : denV τ P k pl c ρ σ _)
    intro e ρ' σ' μ' Im' w' ρc' r' s' hg' hk' hq
    cases e with
    | goto l => exact hq.elim
    | _ => exact tr _ ρ' σ' μ' Im' w' ρc' r' s' hg' hk' hq
  | .label .., _, τ, ρ, σ, μ, Im, w, ρc, Q, Qc, hm, hk, r, hg, tr, h => tr _ ρ σ μ Im w ρc r ((Stp.refl _ _ _ _).toq hk) hg hk h
  | .goto .., _, _, _, _, _, _, _, _, _, _, _, _, _, _, _, h => (h : False).elim
  | .refuse .., _, _, _, _, _, _, _, _, _, _, _, _, _, _, _, h => (h : False).elim
end
end Go.Vx

/-! Functions and calls. -/
namespace Go.Vx
open Go.Eng
set_option linter.unusedSimpArgs false
set_option linter.unusedVariables false

def rgV : Nat → List V → Vg
  | _, [] => []
  | i, v :: r => (i, v) :: rgV (i + 1) r
def resultsV (P : Program) : List ResultVar → Vg → St → (List V → Prop) → Prop
  | [], _, _, K => K []
  | .tmp t :: r, ρ, σ, K => lkV ρ t fun v => resultsV P r ρ σ fun vs => K (v :: vs)
  | .cell t ty :: r, ρ, σ, K => lkV ρ t fun p => ldV P ty p σ fun _ v => resultsV P r ρ σ fun vs => K (v :: vs)
def packU : List V → V
  | [v] => v
  | vs => .tup vs
def retPV (P : Program) (rs : List ResultVar) (R : V → St → Prop) : PostV
  | _, .normal, ρ, σ => resultsV P rs ρ σ fun vs => R (packU vs) σ
  | _, .ret, ρ, σ => resultsV P rs ρ σ fun vs => R (packU vs) σ
  | _, _, _, _ => False
/-- **What a function does**, given values and the blocks that they lead to. -/
def Fn (P : Program) (f : FuncId) (vs : List V) (σ : St) (Q : V → St → Prop) : Prop :=
  (∀ (args : Array Value) (w : World), (callFunc f args).run P w = .ok (.enter f args) w) ∧
  ∀ (μ : Mu) (Im : Nat → Prop) (w : World) (args : List Value), Rel μ Im σ w → RepL w Im μ vs args →
    Rets P f args w fun v w' => ∃ u σ' μ' Im', Rel μ' Im' σ' w' ∧ Stq σ.length μ Im σ w μ' Im' σ' w' ∧ σ.length ≤ μ'.length ∧ RepV w' Im' μ' u v ∧ Q u σ'
/-- One answer alone. -/
def Fn1 (P : Program) (f : FuncId) (vs : List V) (σ : St) (u : V) (s : St) : Prop := Fn P f vs σ fun u' s' => u' = u ∧ s' = s
theorem Fn.mono {P : Program} {f : FuncId} {vs : List V} {σ : St} {Q Q' : V → St → Prop} (h : Fn P f vs σ Q) (hq : ∀ u s, Q u s → Q' u s) : Fn P f vs σ Q' :=
  ⟨h.1, fun μ Im w args r hr => (h.2 μ Im w args r hr).mono fun v w' ⟨u, σ', μ', Im', h1, h2, h3, h4, h5⟩ => ⟨u, σ', μ', Im', h1, h2, h3, h4, hq _ _ h5⟩⟩

section
variable {P : Program}
theorem okC_of_chk {n : Nat} {pl : Plans} : ∀ (c : Code), chk n pl c = true → okC n c = true
  | .region _ ops draw, h => by simp only [chk, Bool.and_eq_true] at h; exact h.1
  | .seq a b, h => by simp only [chk, Bool.and_eq_true] at h; simp only [okC, Bool.and_eq_true]; exact ⟨okC_of_chk a h.1, okC_of_chk b h.2⟩
  | .cond _ a b, h => by simp only [chk, Bool.and_eq_true] at h; simp only [okC, Bool.and_eq_true]; exact ⟨okC_of_chk a h.1, okC_of_chk b h.2⟩
  | .block _ c, h => okC_of_chk c h
  | .loop c, h => okC_of_chk c h
  | .skip, _ => rfl
  | .exit _, _ => rfl
  | .ret, _ => rfl
  | .rangeFunc .., _ => rfl
  | .scope c, h => okC_of_chk c h
  | .label .., _ => rfl
  | .goto .., _ => rfl
  | .refuse .., _ => rfl
theorem rgV_sound {w : World} {Im : Nat → Prop} {μ : Mu} : ∀ {vs : List V} {args : List Value} (i : Nat), RepL w Im μ vs args → RepG w Im μ (rgV i vs) (rgOf i args)
  | [], _, i, _ => fun t u h => by simp [rgV, fdV] at h
  | v :: vs, args, i, h => by
    obtain ⟨a, args, rfl, h1, h2⟩ := h.uncons
    exact (rgV_sound (i + 1) h2).cons i h1
theorem resultsV_sound {w : World} {Im : Nat → Prop} {μ : Mu} {σ : St} {ρ : Vg} {ρc : Rg} (r : Rel μ Im σ w) (hg : RepG w Im μ ρ ρc) : ∀ {rs : List ResultVar} {K : List V → Prop} {Kc : List Value → Prop}, resultsV P rs ρ σ K → (∀ us vs, RepL w Im μ us vs → K us → Kc vs) → resultsK P rs ρc w Kc
  | [], K, Kc, h, hk => hk [] [] .nil h
  | .tmp t :: rs, K, Kc, h, hk => by
    obtain ⟨u, v, h1, h2, h3⟩ := lkV_sound hg (h : lkV ρ t _)
    show lk ρc t fun v => resultsK P rs ρc w fun vs => Kc (v :: vs)
    rw [h3]
    exact resultsV_sound r hg h2 fun us vs hr hK => hk _ _ (.cons h1 hr) hK
  | .cell t ty :: rs, K, Kc, h, hk => by
    obtain ⟨u, v, h1, h2, h3⟩ := lkV_sound hg (h : lkV ρ t _)
    obtain ⟨u', v', h4, h5, h6⟩ := ldV_sound r h1 h2
    show lk ρc t fun p => loadK P ty p w fun _ v _ => resultsK P rs ρc w fun vs => Kc (v :: vs)
    rw [h3, h6]
    exact resultsV_sound r hg h5 fun us vs hr hK => hk _ _ (.cons h4 hr) hK
theorem packU_sound {w : World} {Im : Nat → Prop} {μ : Mu} {us : List V} {vs : List Value} (h : RepL w Im μ us vs) : RepV w Im μ (packU us) (packV vs) := by
  match us, h with
  | [], h =>
    have : vs = [] := List.length_eq_zero_iff.1 (by simpa using h.1)
    subst this
    exact .tup h.1 h.2
  | [u], h =>
    obtain ⟨v, vs, rfl, h1, h2⟩ := h.uncons
    have : vs = [] := List.length_eq_zero_iff.1 (by simpa using h2.1)
    subst this
    exact h1
  | u :: u' :: us, h =>
    obtain ⟨v, vs, rfl, h1, h2⟩ := h.uncons
    obtain ⟨v', vs, rfl, h3, h4⟩ := h2.uncons
    exact .tup h.1 h.2

/-- What is left at a function's end, told in the caller's way. -/
def EndV (k : Nat) (Q : V → St → Prop) (u : V) (s : St) : Prop := ∃ π u₀ s₀, EmbR k π u₀ s₀ u s ∧ Q u₀ s₀
theorem fn_of {f : FuncId} {fn : Func} {c : Code} {vs : List V} {σ : St} {Q : V → St → Prop} (pl : Plans) (hm : P.follows .mixedOrders = true) (hcf : ∀ (args : Array Value) (w : World), (callFunc f args).run P w = .ok (.enter f args) w)
    (hf : P.funcs[f]? = some fn) (hb : fn.body = some c) (hc : chk fn.ntmps pl c = true) (hs : Nat.ble vs.length fn.ntmps = true) (rs : List ResultVar) (hr : fn.results.toList = rs)
    (h : denV true P σ.length pl c (rgV 0 vs) σ (retPV P rs (EndV σ.length Q))) : Fn P f vs σ Q := by
  refine ⟨hcf, fun μ Im w args r hl => ?_⟩
  refine rets_den hf hb (okC_of_chk c hc) (by rw [hl.1]; exact hs) rs hr ?_
  refine denV_sound c hc true _ σ μ Im w _ _ _ hm (by rw [r.len]; exact Nat.le_refl _) r (rgV_sound 0 hl) ?_ h
  intro e ρ' σ' μ' Im' w' ρc r' s' g' k' hq
  have fin : resultsV P rs ρ' σ' (fun vs => EndV σ.length Q (packU vs) σ') → resultsK P rs ρc w' fun vs => ∃ u σ' μ' Im', Rel μ' Im' σ' w' ∧ Stq σ.length μ Im σ w μ' Im' σ' w' ∧ σ.length ≤ μ'.length ∧ RepV w' Im' μ' u (packV vs) ∧ Q u σ' := fun hq =>
    resultsV_sound r' g' hq fun us vs hus hE => by
      obtain ⟨π, u₀, s₀, ⟨h1, h2, h3⟩, hQ⟩ := hE
      obtain ⟨Im'', q1, q2, q3, fz⟩ := Emb.part (ρ₀ := []) (ρ := []) ⟨h1, h2, trivial⟩ r' k'
      exact ⟨u₀, s₀, _, Im'', q1, s'.trans q2, q3, mV_sound r' fz h3 (packU_sound hus), hQ⟩
  cases e with
  | normal => exact fin hq
  | ret => exact fin hq
  | _ => exact hq.elim

/-! ### calls -/
mutual
def renV (f : Nat → Nat) : V → V
  | .lit v => .lit v
  | .row z l => .row z l
  | .xrow z l => .xrow z l
  | .ref o z i off => .ref (f o) z i off
  | .sl o z off len => .sl (f o) z off len
  | .rref z l i off => .rref z l i off
  | .agg l => .agg (renL f l)
  | .tup l => .tup (renL f l)
  | .clo g l => .clo g (renL f l)
def renL (f : Nat → Nat) : List V → List V
  | [] => []
  | v :: vs => renV f v :: renL f vs
end
def renO (f : Nat → Nat) : Ob → Ob
  | .cells l => .cells (renL f l)
  | .row z l => .row z l
def renX (f : Nat → Nat) : Option Ob → Option Ob
  | none => none
  | some ob => some (renO f ob)
def rnm : List Nat → Nat → Nat → Nat
  | [], n, j => n + j
  | p :: _, _, 0 => p
  | _ :: r, n, j + 1 => rnm r n j
def renS (f : Nat → Nat) : St → St
  | [] => []
  | x :: s => renX f x :: renS f s
def mrg (f : Nat → Nat) : List Nat → St → St → St
  | [], σ, s => σ ++ renS f s
  | p :: π, σ, x :: s => mrg f π (σ.set p (renX f x)) s
  | _ :: _, σ, [] => σ
def kill : List Nat → St → St
  | [], σ => σ
  | o :: F, σ => kill F (σ.set o none)
theorem renL_eq (f : Nat → Nat) : ∀ l : List V, renL f l = l.map (renV f)
  | [] => rfl
  | v :: l => by simp [renL, renL_eq f l]
theorem renS_eq (f : Nat → Nat) : ∀ s : St, renS f s = s.map (renX f)
  | [] => rfl
  | v :: l => by simp [renS, renS_eq f l]
theorem rnm_lt : ∀ {π : List Nat} {n j : Nat} (h : j < π.length), rnm π n j = π[j]
  | [], _, _, h => by simp at h
  | p :: π, n, 0, _ => rfl
  | p :: π, n, j + 1, h => by simpa [rnm] using rnm_lt (π := π) (n := n) (j := j) (by simpa using h)
theorem rnm_ge : ∀ {π : List Nat} {n j : Nat} (h : π.length ≤ j), rnm π n j = n + (j - π.length)
  | [], _, _, _ => by simp [rnm]
  | p :: π, n, 0, h => by simp at h
  | p :: π, n, j + 1, h => by simpa [rnm] using rnm_ge (π := π) (n := n) (j := j) (by simpa using h)
theorem mrg_len {f : Nat → Nat} : ∀ {π : List Nat} {σ s : St}, π.length ≤ s.length → (mrg f π σ s).length = σ.length + (s.length - π.length)
  | [], σ, s, _ => by simp [mrg, renS_eq]
  | p :: π, σ, [], h => by simp at h
  | p :: π, σ, x :: s, h => by rw [mrg, mrg_len (by simpa using h)]; simp
theorem mrg_old {f : Nat → Nat} : ∀ {π : List Nat} {σ s : St} {i : Nat}, π.length ≤ s.length → i < σ.length → i ∉ π → (mrg f π σ s)[i]? = σ[i]?
  | [], σ, s, i, _, hi, _ => by rw [mrg, List.getElem?_append_left hi]
  | p :: π, σ, [], i, h, _, _ => by simp at h
  | p :: π, σ, x :: s, i, h, hi, hn => by
    simp only [List.mem_cons, not_or] at hn
    rw [mrg, mrg_old (by simpa using h) (by simpa using hi) hn.2, List.getElem?_set_ne (fun e => hn.1 e.symm)]
theorem mrg_at {f : Nat → Nat} : ∀ {π : List Nat} {σ s : St} {j p : Nat}, π.length ≤ s.length → π.Nodup → π[j]? = some p → p < σ.length → (mrg f π σ s)[p]? = (s[j]?).map (renX f)
  | [], σ, s, j, p, _, _, h, _ => by simp at h
  | q :: π, σ, [], j, p, h, _, _, _ => by simp at h
  | q :: π, σ, x :: s, 0, p, h, hn, hp, hl => by
    simp only [List.nodup_cons] at hn
    simp at hp
    subst hp
    rw [mrg, mrg_old (by simpa using h) (by simpa using hl) hn.1, List.getElem?_set_self hl]
    rfl
  | q :: π, σ, x :: s, j + 1, p, h, hn, hp, hl => by
    simp only [List.nodup_cons] at hn
    rw [mrg, mrg_at (j := j) (by simpa using h) hn.2 (by simpa using hp) (by simpa using hl)]
    simp
theorem mrg_new {f : Nat → Nat} : ∀ {π : List Nat} {σ s : St} {i : Nat}, π.length ≤ s.length → σ.length ≤ i → (mrg f π σ s)[i]? = (s[π.length + (i - σ.length)]?).map (renX f)
  | [], σ, s, i, _, hi => by rw [mrg, List.getElem?_append_right hi, renS_eq, List.getElem?_map]; simp
  | p :: π, σ, [], i, h, _ => by simp at h
  | p :: π, σ, x :: s, i, h, hi => by
    rw [mrg, mrg_new (by simpa using h) (by simpa using hi)]
    simp only [List.length_set, List.length_cons]
    rw [show π.length + 1 + (i - σ.length) = (π.length + (i - σ.length)) + 1 by omega, List.getElem?_cons_succ]
theorem kill_len : ∀ (F : List Nat) (σ : St), (kill F σ).length = σ.length
  | [], σ => rfl
  | o :: F, σ => by rw [kill, kill_len F]; simp
theorem kill_get : ∀ (F : List Nat) (σ : St) {i : Nat} {ob : Ob}, (kill F σ)[i]? = some (some ob) → i ∉ F ∧ σ[i]? = some (some ob)
  | [], σ, i, ob, h => ⟨by simp, h⟩
  | o :: F, σ, i, ob, h => by
    obtain ⟨h1, h2⟩ := kill_get F (σ.set o none) h
    by_cases e : o = i
    · subst e
      rw [List.getElem?_set] at h2
      simp at h2
    · rw [List.getElem?_set_ne e] at h2
      exact ⟨by simp [h1]; exact fun h => e h.symm, h2⟩
theorem RepV.ren {w : World} {Im : Nat → Prop} {μ μ' : Mu} {f : Nat → Nat} (hf : ∀ (j : Nat) x, μ[j]? = some x → μ'[f j]? = some x) {u : V} {v : Value} (h : RepV w Im μ u v) : RepV w Im μ' (renV f u) v := by
  have lst : ∀ {l : List V} {C : List Value}, (∀ (i : Nat) u c, l[i]? = some u → C[i]? = some c → RepV w Im μ' (renV f u) c) → ∀ (i : Nat) u c, (renL f l)[i]? = some u → C[i]? = some c → RepV w Im μ' u c := by
    intro l C ih i u c hu hc
    rw [renL_eq, List.getElem?_map] at hu
    cases hx : l[i]? with
    | none => rw [hx] at hu; cases hu
    | some x => rw [hx] at hu; cases hu; exact ih i x c hx hc
  induction h with
  | lit h => exact .lit h
  | row h => exact .row h
  | xrow h => exact .xrow h
  | ref h => exact .ref (hf _ _ h)
  | sl h =>
    obtain ⟨x, hx⟩ := h.some
    refine .sl ?_
    rw [hf _ _ hx]
    rw [hx] at h
    exact h
  | rref q1 q2 q3 q4 q5 q6 => exact .rref q1 q2 q3 q4 q5 q6
  | agg hn ho _ ih => exact .agg (by rw [renL_eq]; simpa using hn) ho (lst ih)
  | tup hn _ ih => exact .tup (by rw [renL_eq]; simpa using hn) (lst ih)
  | clo hn _ ih => exact .clo (by rw [renL_eq]; simpa using hn) (lst ih)
theorem RepO.ren {w : World} {Im : Nat → Prop} {μ μ' : Mu} {f : Nat → Nat} (hf : ∀ (j : Nat) x, μ[j]? = some x → μ'[f j]? = some x) {loc : Option (Nat × Nat)} {ob : Ob} (h : RepO w Im μ loc ob) : RepO w Im μ' loc (renO f ob) := by
  cases ob with
  | cells l =>
    obtain ⟨b, C, e, hB, ho, hL⟩ := h
    refine ⟨b, C, e, hB, ho, by rw [renL_eq]; simpa using hL.1, fun i u c hu hc => ?_⟩
    rw [renL_eq, List.getElem?_map] at hu
    cases hx : l[i]? with
    | none => rw [hx] at hu; cases hu
    | some x => rw [hx] at hu; cases hu; exact (hL.2 i x c hx hc).ren hf
  | row z l => exact h
/-- Numbers for what is lent: a slice that is nil gets a new one. -/
def vpi : Nat → Pi → List Nat
  | _, [] => []
  | n, some o :: r => o :: vpi n r
  | n, none :: r => n :: vpi (n + 1) r
def vcnt : Pi → Nat
  | [] => 0
  | some _ :: r => vcnt r
  | none :: r => vcnt r + 1
def padN : Nat → St → St
  | 0, σ => σ
  | n + 1, σ => padN n (σ ++ [none])
theorem padN_eq : ∀ (n : Nat) (σ : St), padN n σ = σ ++ List.replicate n none
  | 0, σ => by simp [padN]
  | n + 1, σ => by rw [padN, padN_eq n]; simp [List.replicate_succ]
theorem vpi_len : ∀ (π : Pi) (n : Nat), (vpi n π).length = π.length
  | [], _ => rfl
  | some _ :: r, n => by simp [vpi, vpi_len r]
  | none :: r, n => by simp [vpi, vpi_len r]
theorem vpi_some : ∀ (π : Pi) (n j o : Nat), π[j]? = some (some o) → (vpi n π)[j]? = some o
  | [], _, j, o, h => by simp at h
  | some p :: r, n, 0, o, h => by simp at h; subst h; rfl
  | none :: r, n, 0, o, h => by simp at h
  | some p :: r, n, j + 1, o, h => by simpa [vpi] using vpi_some r n j o (by simpa using h)
  | none :: r, n, j + 1, o, h => by simpa [vpi] using vpi_some r (n + 1) j o (by simpa using h)
theorem vpi_none : ∀ (π : Pi) (n j : Nat), π[j]? = some none → ∃ m, (vpi n π)[j]? = some m ∧ n ≤ m ∧ m < n + vcnt π
  | [], _, j, h => by simp at h
  | some p :: r, n, 0, h => by simp at h
  | none :: r, n, 0, _ => ⟨n, rfl, Nat.le_refl _, by simp [vcnt]⟩
  | some p :: r, n, j + 1, h => by simpa [vpi, vcnt] using vpi_none r n j (by simpa using h)
  | none :: r, n, j + 1, h => by
    obtain ⟨m, h1, h2, h3⟩ := vpi_none r (n + 1) j (by simpa using h)
    exact ⟨m, by simpa [vpi] using h1, by omega, by simp only [vcnt]; omega⟩
theorem vpi_mem : ∀ (π : Pi) (n m : Nat), m ∈ vpi n π → some m ∈ π ∨ (n ≤ m ∧ m < n + vcnt π)
  | [], _, m, h => by simp [vpi] at h
  | some p :: r, n, m, h => by
    simp only [vpi, List.mem_cons] at h
    rcases h with rfl | h
    · exact .inl (by simp)
    · exact (vpi_mem r n m h).imp (fun h => by simp [h]) id
  | none :: r, n, m, h => by
    simp only [vpi, List.mem_cons] at h
    simp only [vcnt]
    rcases h with rfl | h
    · exact .inr ⟨Nat.le_refl _, by omega⟩
    · rcases vpi_mem r (n + 1) m h with h | h
      · exact .inl (by simp [h])
      · exact .inr ⟨by omega, by omega⟩
theorem vpi_nodup : ∀ (π : Pi) (n : Nat), (π.filterMap id).Nodup → (∀ p, some p ∈ π → p < n) → (vpi n π).Nodup
  | [], _, _, _ => by simp [vpi]
  | some p :: r, n, h, hb => by
    simp only [List.filterMap_cons, id, List.nodup_cons] at h
    simp only [vpi, List.nodup_cons]
    refine ⟨fun hm => ?_, vpi_nodup r n h.2 (fun q hq => hb q (by simp [hq]))⟩
    rcases vpi_mem r n p hm with h1 | h1
    · exact h.1 (List.mem_filterMap.2 ⟨some p, h1, rfl⟩)
    · have := hb p (by simp); omega
  | none :: r, n, h, hb => by
    simp only [List.filterMap_cons, id] at h
    simp only [vpi, List.nodup_cons]
    refine ⟨fun hm => ?_, vpi_nodup r (n + 1) h (fun q hq => by have := hb q (by simp [hq]); omega)⟩
    rcases vpi_mem r (n + 1) n hm with h1 | h1
    · have := hb n (by simp [h1]); omega
    · omega
/-- What a call is given: the blocks π are lent (none: a slice that is nil), the slices F are told as unchanged from here on. -/
def CallM (π : Pi) (F : List Nat) (vs₀ : List V) (σ₀ : St) (vs : List V) (σ : St) : Prop :=
  (ndp π && π.all (fun p => match p with | some p => decide (p < σ.length) && !F.contains p | none => true)) = true ∧ mSt F.contains π σ σ₀ π ∧ mVs F.contains π σ vs₀ vs
/-- The store behind a call. -/
def behd (π : Pi) (F : List Nat) (σ s : St) : St := mrg (rnm (vpi σ.length π) (σ.length + vcnt π)) (vpi σ.length π) (padN (vcnt π) (kill F σ)) s

theorem callV_of {e : Bool} {f : FuncId} {vs vs₀ : List V} {σ σ₀ : St} {Q : V → St → Prop} {K : KV} (π : Pi) (F : List Nat) (spec : Fn P f vs₀ σ₀ Q) (hm : CallM π F vs₀ σ₀ vs σ) (he : e = true → σ₀ = [])
    (hk : ∀ u s, Q u s → K true (renV (rnm (vpi σ.length π) (σ.length + vcnt π)) u) (behd π F σ s)) : callV P e f vs σ K := by
  refine ⟨spec.1, fun μ Im w args r hr => ?_⟩
  obtain ⟨hc, hs, hv⟩ := hm
  simp only [Bool.and_eq_true] at hc
  obtain ⟨hnp, hall⟩ := hc
  have hall' : ∀ p, some p ∈ π → p < σ.length ∧ F.contains p = false := fun p hp => by
    have := List.all_eq_true.1 hall _ hp
    simpa using this
  have fz : Frz μ Im σ F.contains fun b => Im b ∨ ∃ (o n : Nat) (ob : Ob), F.contains o = true ∧ σ[o]? = some (some ob) ∧ μ[o]? = some (some (b, n)) := ⟨fun b hb => .inl hb, fun o b n ob h1 h2 h3 => .inr ⟨o, n, ob, h1, h2, h3⟩⟩
  obtain ⟨r₀, hl₀⟩ := r.part fz (fun j o hj => (hall' o (List.mem_of_getElem? hj)).2) (ndl_of_ndp hnp) hs (fun b hb => hb)
  obtain ⟨hsl, hss⟩ := mSt_spec hs
  refine (spec.2 (muOf μ π) _ w args r₀ (mVs_sound r fz hv hr)).mono ?_
  rintro v w' ⟨u, s, μ₁, Im₁, r₁, s₁, hlen, hu, hQ⟩
  have hn : μ.length = σ.length := r.len
  generalize hN : σ.length = N at *
  generalize hq : vcnt π = q at *
  have hμ₁ : μ₁.length = s.length := r₁.len
  have hpl : (vpi N π).length = π.length := vpi_len π N
  have hps : (vpi N π).length ≤ s.length := by omega
  have hnd : (vpi N π).Nodup := vpi_nodup π N (of_decide_eq_true hnp) fun p hp => (hall' p hp).1
  have hkx : (padN q (kill F σ)) = kill F σ ++ List.replicate q none := padN_eq _ _
  have hxl : (padN q (kill F σ)).length = N + q := by rw [hkx]; simp [kill_len, hN]
  have hplt : ∀ p ∈ vpi N π, p < N + q := fun p hp => by
    rcases vpi_mem π N p hp with h | h
    · have := (hall' p h).1; omega
    · rw [hq] at h; omega
  have hmx : (μ ++ List.replicate q none).length = N + q := by simp [hn]
  have hf : ∀ (j : Nat) x, μ₁[j]? = some x → ((μ ++ List.replicate q none) ++ μ₁.drop π.length)[rnm (vpi N π) (N + q) j]? = some x := by
    intro j x hx
    by_cases hj : j < π.length
    · have hjp : j < (vpi N π).length := by omega
      rw [rnm_lt hjp, List.getElem?_append_left (by rw [hmx]; exact hplt _ (List.getElem_mem hjp))]
      rw [s₁.pre j (by omega)] at hx
      have hpj : π[j]? = some π[j] := List.getElem?_eq_getElem hj
      cases hp : π[j] with
      | some o =>
        rw [hp] at hpj
        have h1 := vpi_some π N j o hpj
        rw [List.getElem?_eq_getElem hjp] at h1
        have h2 : (vpi N π)[j] = o := Option.some.inj h1
        have hlt : o < μ.length := by rw [hn]; exact (hall' o (List.mem_of_getElem? hpj)).1
        rw [h2, List.getElem?_append_left hlt]
        rw [muOf_some hpj, List.getElem?_eq_getElem hlt] at hx
        rw [List.getElem?_eq_getElem hlt]
        simpa using hx
      | none =>
        rw [hp] at hpj
        obtain ⟨m, h1, h2, h3⟩ := vpi_none π N j hpj
        rw [List.getElem?_eq_getElem hjp] at h1
        have h4 : (vpi N π)[j] = m := Option.some.inj h1
        rw [muOf_none hpj] at hx
        rw [h4, List.getElem?_append_right (by omega), List.getElem?_replicate, if_pos (by rw [hq] at h3; omega), ← hx]
    · rw [rnm_ge (by omega), List.getElem?_append_right (by omega), List.getElem?_drop, ← hx]
      congr 1
      rw [hmx]
      omega
  -- what a number behind stands for
  have src : ∀ (i : Nat) ob, (behd π F σ s)[i]? = some (some ob) →
      (some i ∉ π ∧ i ∉ F ∧ i < N ∧ σ[i]? = some (some ob)) ∨ ∃ j ob₁, s[j]? = some (some ob₁) ∧ ob = renO (rnm (vpi N π) (N + q)) ob₁ ∧ i = rnm (vpi N π) (N + q) j := by
    intro i ob h
    unfold behd at h
    rw [hN, hq] at h
    by_cases hi : i < N + q
    · by_cases hp : i ∈ vpi N π
      · obtain ⟨j, hj, hje⟩ := List.mem_iff_getElem.1 hp
        rw [mrg_at (j := j) hps hnd (by rw [List.getElem?_eq_getElem hj, hje]) (by omega)] at h
        cases hx : s[j]? with
        | none => rw [hx] at h; cases h
        | some x =>
          rw [hx] at h
          cases x with
          | none => cases h
          | some ob₁ => cases h; exact .inr ⟨j, ob₁, hx, rfl, by rw [rnm_lt hj, hje]⟩
      · rw [mrg_old hps (by omega) hp, hkx] at h
        by_cases hiN : i < N
        · rw [List.getElem?_append_left (by rw [kill_len, hN]; exact hiN)] at h
          obtain ⟨h1, h2⟩ := kill_get F σ h
          refine .inl ⟨fun hm => ?_, h1, hiN, h2⟩
          obtain ⟨j, hj, hje⟩ := List.mem_iff_getElem.1 hm
          exact hp (List.mem_of_getElem? (vpi_some π N j i (by rw [List.getElem?_eq_getElem hj, hje])))
        · rw [List.getElem?_append_right (by rw [kill_len, hN]; omega), List.getElem?_replicate] at h
          split at h <;> cases h
    · rw [mrg_new hps (by omega)] at h
      cases hx : s[(vpi N π).length + (i - (padN q (kill F σ)).length)]? with
      | none => rw [hx] at h; cases h
      | some x =>
        rw [hx] at h
        cases x with
        | none => cases h
        | some ob₁ => cases h; exact .inr ⟨_, ob₁, hx, rfl, by rw [rnm_ge (by omega)]; omega⟩
  have hext : Ext (live μ σ) w w' := s₁.ext.mono fun b hb => .inl (hl₀ b hb)
  have mn : Mono μ Im w ((μ ++ List.replicate q none) ++ μ₁.drop π.length) Im₁ w' := ⟨by rw [List.append_assoc]; exact List.prefix_append _ _, fun b hb => s₁.im b (.inl hb), fun b hb => hext.block b (r.im b hb).1 (r.im b hb).2⟩
  have oldget : ∀ {i : Nat} {x}, i < N → ((μ ++ List.replicate q none) ++ μ₁.drop π.length)[i]? = x → μ[i]? = x := fun {i x} hi h => by
    rw [List.append_assoc, List.getElem?_append_left (by omega)] at h; exact h
  -- a block that is not lent
  have apart : ∀ {i : Nat} {ob : Ob} {b n : Nat}, some i ∉ π → σ[i]? = some (some ob) → μ[i]? = some (some (b, n)) → b ∉ live (muOf μ π) σ₀ := by
    intro i ob b n hi h1 h2 hb
    obtain ⟨j, m, ob₀, h3, h4⟩ := mem_live.1 hb
    rcases hss j ob₀ h4 with ⟨o, ob', h5, h6, _⟩ | ⟨h5, _⟩
    · rw [muOf_some h5] at h3
      obtain ⟨loc, h7, _⟩ := r.rep o ob' h6
      rw [h7] at h3
      simp at h3
      subst h3
      have := r.inj i o ob ob' b n m h1 h6 h2 h7
      subst this
      exact hi (List.mem_of_getElem? h5)
    · rw [muOf_none h5] at h3
      cases h3
  have news : ∀ {j : Nat} {ob : Ob} {b n : Nat}, s[j]? = some (some ob) → ((μ ++ List.replicate q none) ++ μ₁.drop π.length)[rnm (vpi N π) (N + q) j]? = some (some (b, n)) → μ₁[j]? = some (some (b, n)) := by
    intro j ob b n h1 h2
    have : μ₁[j]? = some (μ₁[j]'(by rw [hμ₁]; exact get_lt h1)) := List.getElem?_eq_getElem _
    rw [hf j _ this] at h2
    rw [this]
    exact h2
  have hlive : ∀ b ∈ live ((μ ++ List.replicate q none) ++ μ₁.drop π.length) (behd π F σ s), b ∈ live μ σ ∨ w.heap.size ≤ b := by
    intro b hb
    obtain ⟨i, n, ob, h1, h2⟩ := mem_live.1 hb
    rcases src i ob h2 with ⟨h3, h4, h5, h6⟩ | ⟨j, ob₁, h3, rfl, rfl⟩
    · exact .inl (mem_live.2 ⟨i, n, ob, oldget h5 h1, h6⟩)
    · exact (s₁.live b (mem_live.2 ⟨j, n, ob₁, news h3 h1, h3⟩)).imp (hl₀ b) id
  refine ⟨_, _, (μ ++ List.replicate q none) ++ μ₁.drop π.length, Im₁, ⟨?_, fun i ob h => ?_, fun i i' ob ob' b n n' h1 h2 h3 h4 => ?_, fun b hb => ?_⟩, ⟨by rw [List.append_assoc]; exact List.prefix_append _ _, fun b hb => s₁.im b (.inl hb), hext, hlive, fun b hb => ?_⟩, fun e' => ?_, hu.ren hf, hk u s hQ⟩
  · unfold behd
    rw [hN, hq, mrg_len hps, hxl]
    simp [hn]
    omega
  · rcases src i ob h with ⟨h3, h4, h5, h6⟩ | ⟨j, ob₁, h3, rfl, rfl⟩
    · obtain ⟨loc, h7, h8⟩ := r.rep i ob h6
      refine ⟨loc, by rw [List.append_assoc, List.getElem?_append_left (by omega)]; exact h7, h8.mono mn fun b n e => ?_⟩
      subst e
      exact s₁.ext.block b (r.lt (mem_live.2 ⟨i, n, ob, h7, h6⟩)) (apart h3 h6 h7)
    · obtain ⟨loc, h7, h8⟩ := r₁.rep j ob₁ h3
      exact ⟨loc, hf j loc h7, h8.ren hf⟩
  · have mixed : ∀ {i j : Nat} {ob ob₁ : Ob} {b n n' : Nat}, some i ∉ π → i < N → σ[i]? = some (some ob) → ((μ ++ List.replicate q none) ++ μ₁.drop π.length)[i]? = some (some (b, n)) → s[j]? = some (some ob₁) → ((μ ++ List.replicate q none) ++ μ₁.drop π.length)[rnm (vpi N π) (N + q) j]? = some (some (b, n')) → False := by
      intro i j ob ob₁ b n n' h1 h2 h3 h4 h5 h6
      have h4' := oldget h2 h4
      rcases s₁.live b (mem_live.2 ⟨j, n', ob₁, news h5 h6, h5⟩) with h7 | h7
      · exact apart h1 h3 h4' h7
      · have := r.lt (mem_live.2 ⟨i, n, ob, h4', h3⟩)
        omega
    rcases src i ob h1 with ⟨q1, q2, q3, q4⟩ | ⟨j, ob₁, q1, rfl, rfl⟩
    · rcases src i' ob' h2 with ⟨q5, q6, q7, q8⟩ | ⟨j, ob₁, q5, rfl, rfl⟩
      · exact r.inj i i' ob ob' b n n' q4 q8 (oldget q3 h3) (oldget q7 h4)
      · exact (mixed q1 q3 q4 h3 q5 h4).elim
    · rcases src i' ob' h2 with ⟨q5, q6, q7, q8⟩ | ⟨j', ob₁', q5, rfl, rfl⟩
      · exact (mixed q5 q7 q8 h4 q1 h3).elim
      · have := r₁.inj j j' ob₁ ob₁' b n n' q1 q5 (news q1 h3) (news q5 h4)
        subst this
        rfl
  · refine ⟨(r₁.im b hb).1, fun h => ?_⟩
    obtain ⟨i, n, ob, h1, h2⟩ := mem_live.1 h
    rcases src i ob h2 with ⟨q1, q2, q3, q4⟩ | ⟨j, ob₁, q1, rfl, rfl⟩
    · have h1' := oldget q3 h1
      have hbl : b ∈ live μ σ := mem_live.2 ⟨i, n, ob, h1', q4⟩
      rcases s₁.fresh b hb with (h5 | ⟨o, m, ob', h5, h6, h7⟩) | h5 | h5
      · exact (r.im b h5).2 hbl
      · have := r.inj i o ob ob' b n m q4 h6 h1' h7
        subst this
        exact q2 (List.contains_iff_mem.1 h5)
      · exact apart q1 q4 h1' h5
      · have := r.lt hbl
        omega
    · exact (r₁.im b hb).2 (mem_live.2 ⟨j, n, ob₁, news q1 h1, q1⟩)
  · rcases s₁.fresh b hb with (h5 | ⟨o, m, ob', h5, h6, h7⟩) | h5 | h5
    · exact .inl h5
    · exact .inr (.inl (mem_live.2 ⟨o, m, ob', h7, h6⟩))
    · exact .inr (.inl (hl₀ b h5))
    · exact .inr (.inr h5)
  · have e0 := he e'
    refine s₁.ext.mono fun b hb => ?_
    rw [e0] at hb
    simp [live] at hb

/-- A law's end. -/
theorem rets_of_fn {f : FuncId} {vs : List V} {args : List Value} {w : World} {u : V} {Q : V → St → Prop} (h : Fn P f vs [] Q) (hr : RepL w (fun b => b < w.heap.size) [] vs args) (hq : ∀ u s, Q u s → u = .lit (.bool true)) :
    Rets P f args w fun v w' => v = .bool true ∧ Ext [] w w' := by
  have r : Rel [] (fun b => b < w.heap.size) [] w := ⟨rfl, fun o ob h => by simp at h, fun o o' ob ob' b n n' h => by simp at h, fun b hb => ⟨hb, by simp [live]⟩⟩
  refine (h.2 [] _ w args r hr).mono ?_
  rintro v w' ⟨u, σ', μ', Im', h1, h2, h3, h4, h5⟩
  have e := hq _ _ h5
  subst e
  cases h4
  exact ⟨rfl, h2.ext.mono fun b hb => by simp [live] at hb⟩
end
end Go.Vx
