import Derived.Test.YtdohmppildfjhaaGreatDoorE3
import Derived.Laws.BytesString
import Derived.Laws.IdiomStrings
import Derived.Test.YtdohmppildfjhaaGreatDoorE2
import Derived.Laws.IdiomRangeMap
import Derived.WideKeyRuns
namespace Go.Vx
open Go.Eng
set_option linter.unusedSimpArgs false
set_option linter.unusedVariables false
section
variable {w w' : World} {Im : Nat → Prop} {μ : Mu} {σ : St} {ρ : Vg} {ρc : Rg} {P : Program}

theorem zrow_get {C : List Value} {n i : Nat} {p : PV} (h : (zrow C n).flatten[i]? = some p) : ∃ c, C[i % C.length]? = some c ∧ p = .lit c := by
 have hz : ∀ e ∈ zrow C n, e.length = C.length := fun e he => by
  unfold zrow at he
  rw [(List.mem_replicate.1 he).2]
  simp
 have hlt := get_lt h
 rw [flat_len hz] at hlt
 have hn : (zrow C n).length = n := by simp [zrow]
 rw [hn] at hlt
 have hC : 0 < C.length := by
  rcases Nat.eq_zero_or_pos C.length with h0 | h0
  ·
   rw [h0] at hlt; omega
  ·
   exact h0
 have e1 : i = i / C.length * C.length + i % C.length := by rw [Nat.mul_comm]; exact (Nat.div_add_mod _ _).symm
 have hd : i / C.length < n := (Nat.div_lt_iff_lt_mul hC).2 hlt
 have hel : (zrow C n)[i / C.length]? = some (C.map PV.lit) := by
  unfold zrow
  rw [List.getElem?_replicate, if_pos hd]
 rw [e1, flat_get hz hel (Nat.mod_lt _ hC), List.getElem?_map] at h
 cases hc : C[i % C.length]? with
 | none => rw [hc] at h; cases h
 | some c => rw [hc] at h; cases h; exact ⟨c, rfl, rfl⟩

theorem mslV_sound {e : Bool} {t : TypeId} {l c : V} {a b : Value} {K : KV} (r : Rel μ Im σ w) (hl : RepV w Im μ l a) (hc : RepV w Im μ c b) (h : mslV P t l c σ K) : Runs e μ Im σ w K fun k => msl P t a b w k := by
 intro k hk
 unfold mslV at h
 split at h
 ·
  rename_i et z hel
  obtain ⟨ht, hz⟩ := elOf_spec hel
  split at h
  ·
   rename_i C y hze hby
   unfold mslU at h
   split at h
   ·
    rename_i n m
    split at h
    ·
     rename_i hcond
     obtain ⟨h0, rfl, hb, hlt, hy0, hCz⟩ := hcond
     obtain ⟨hone, hK⟩ := allOne_iff.1 h
     cases hl; cases hc
     obtain ⟨N, rfl⟩ := Int.eq_ofNat_of_zero_le h0
     rw [Int.toNat_natCast] at hK
     obtain ⟨ti, hti, hbyt⟩ : ∃ ti, P.info? et = some ti ∧ ti.bytes = y := by
      unfold byOf at hby
      cases hi : P.info? et with
      | none => rw [hi] at hby; cases hby
      | some ti => rw [hi] at hby; exact ⟨ti, rfl, by simpa using hby⟩
     obtain ⟨zv, hzv, hzc⟩ := zeOf_spec hze
     have hzs : zv.cells.size = z := by rw [← hCz, ← hzc]; simp
     have fin : ∀ (Z : Array Value), (N * z ≠ 0 → Z = zv.cells) → resK ((do
       let a ← newRow et ((Array.range (N * z)).map (Z[· % Z.size]!))
       pure (.slice (some a) N N) : Sem Value).run P w) (k true) := by
      intro Z hZ
      obtain ⟨D, hD, hDs⟩ : ∃ D : List Value, (Array.range (N * z)).map (Z[· % Z.size]!) = D.toArray ∧ ∀ (i : Nat) c, D[i]? = some c → i < N * z ∧ zv.cells[i % z]? = some c := by
       refine ⟨(List.range (N * z)).map (Z[· % Z.size]!), by apply Array.toList_inj.1; simp, fun i c hc => ?_⟩
       rw [List.getElem?_map] at hc
       have hi : i < N * z := by
        by_cases hi : i < N * z
        ·
         exact hi
        ·
         rw [List.getElem?_eq_none (by simp; omega)] at hc; cases hc
       refine ⟨hi, ?_⟩
       rw [List.getElem?_range hi] at hc
       simp only [Option.map_some, Option.some.injEq] at hc
       have hz0 : 0 < z := by
        rcases Nat.eq_zero_or_pos z with h | h
        ·
         subst h; simp at hi
        ·
         exact h
       rw [hZ (by omega), hzs] at hc
       have hlt2 : i % z < zv.cells.size := by rw [hzs]; exact Nat.mod_lt _ hz0
       rw [getElem!_pos zv.cells _ hlt2] at hc
       rw [Array.getElem?_eq_getElem hlt2, hc]
      have hDl : D.length = N * z := by
       have := congrArg Array.size hD
       simpa using this.symm
      rw [hD]
      obtain ⟨σ', μ', e1, e2, e3, e4⟩ := newO_sound (t := et) (ob := .row z (zrow C N)) r (C := D) ⟨fun x hx => by
        unfold zrow at hx
        rw [(List.mem_replicate.1 hx).2]
        simp [hCz], .inr ⟨_, D, rfl, Blk.new _ _ _, by simp [zrow, hDl], fun i c p hc hp => by
       obtain ⟨c', h1, rfl⟩ := zrow_get hp
       have h2 := (hDs i c hc).2
       rw [hCz, ← hzc, Array.getElem?_toList] at h1
       rw [h1] at h2
       cases h2
       refine .lit ?_
       refine all_mem hone _ ?_
       rw [← hzc]
       exact List.mem_of_getElem? (by rw [Array.getElem?_toList]; exact h1)⟩⟩ hK
      have e5 : RepV (w.alloc (.cells D.toArray et)) Im μ' (.sl σ.length z 0 N) (.slice (some ⟨w.heap.size, 0, none⟩) N N) := .sl ⟨Nat.le_refl _, by rw [e3]; exact ⟨fun _ => by simp, by simp [hDl]⟩⟩
      exact hk _ _ _ _ _ _ e1 e2 (fun _ => (Ext.refl [] w).alloc _) e5 e4
     unfold msl runK Instr.makeSlice
     simp only [Sem.run_bind, run_underlying ht, Result.andThen_ok, asInt, asIntOf, pure_bind, Go.Eng.run_typeInfo hti, hbyt]
     have hw : IntKind.i64.wrap (N : Int) = N := wrap_i64 (by omega)
     have hbig : ((y : Int) * (N : Int) > 2 ^ 48) = False := by
      rw [Int.mul_comm]
      simp only [eq_iff_iff, iff_false]
      omega
     rw [hw]
     have h1 : (decide ((N : Int) < 0) || decide ((y : Int) * (N : Int) > 2 ^ 48)) = false := by
      rw [decide_eq_false (by omega), decide_eq_false (by rw [hbig]; exact id)]; rfl
     simp only [h1, Bool.false_or, Bool.or_false]
     rw [if_neg (by simp)]
     have hroomrun : ∀ (c : Nat) (w : World), (askRoom c).run P w = .ok () w := fun c w => by
      unfold askRoom
      split <;> rfl
     simp only [Sem.run_bind, hroomrun, Result.andThen_ok, Go.Eng.run_sizeOf hz, Int.toNat_natCast]
     by_cases hz0 : N * z = 0
     ·
      rw [if_pos hz0]
      exact fin #[] (fun h => absurd hz0 h)
     ·
      rw [if_neg hz0]
      simp only [Sem.run_bind, run_zero hzv, Result.andThen_ok, pure_bind, bind_assoc]
      exact fin _ (fun _ => rfl)
    ·
     exact h.elim
   ·
    exact h.elim
  ·
   exact h.elim
 ·
  exact h.elim

theorem own_obj {v : Value} {n z : Nat} {cs : List Value} {m : List (List PV)} (h : OwnC w v n z cs) (hm : m.length = n) (hz : ∀ e ∈ m, e.length = z) (hr : ∀ (i : Nat) c p, cs[i]? = some c → m.flatten[i]? = some p → RepP w Im p c) :
  ∃ loc, (∀ b q, loc = some (b, q) → b ∈ fpv v) ∧ (∀ μ, RepO w Im μ loc (.row z m)) ∧ ∀ μ o, μ[o]? = some loc → RepV w Im μ (.sl o z 0 n) v := by
 obtain ⟨hl, hor⟩ := h
 rcases hor with ⟨rfl, rfl⟩ | ⟨b, C, cap, rfl, hB, hC, hn, ht⟩
 ·
  have : m = [] := List.length_eq_zero_iff.1 hm
  subst this
  exact ⟨none, (fun b q e => by cases e), fun μ => ⟨by simp, .inl ⟨rfl, rfl⟩⟩, fun μ o ho => .sl ⟨Nat.le_refl _, by rw [ho]; exact ⟨rfl, rfl, rfl, rfl⟩⟩⟩
 ·
  refine ⟨some (b, C.length), (fun b' q e => by cases e; simp [fpv]), fun μ => ⟨hz, .inr ⟨b, C, rfl, hB, ?_, fun i c p hc hp => ?_⟩⟩, fun μ o ho => .sl ⟨hn, by rw [ho]; exact ⟨fun _ => by simp, by simpa using hC⟩⟩⟩
  ·
   rw [hm]
   exact Nat.le_trans (Nat.mul_le_mul_right z hn) hC
  ·
   have hi := get_lt hp
   rw [flat_len hz, hm] at hi
   refine hr i c p ?_ hp
   rw [← ht, List.getElem?_take, if_pos hi]
   exact hc
theorem flat_app {l m : List (List PV)} {z i : Nat} {c : Value} {p : PV} {C D : List Value} (hC : C.length = l.length * z) (hz : ∀ e ∈ l, e.length = z) (hl : ∀ (i : Nat) c p, C[i]? = some c → l.flatten[i]? = some p → RepP w Im p c)
  (hm : ∀ (i : Nat) c p, D[i]? = some c → m.flatten[i]? = some p → RepP w Im p c) (hc : (C ++ D)[i]? = some c) (hp : (l ++ m).flatten[i]? = some p) : RepP w Im p c := by
 rw [List.flatten_append] at hp
 have hf := flat_len hz
 by_cases hi : i < C.length
 ·
  rw [List.getElem?_append_left hi] at hc
  rw [List.getElem?_append_left (by omega)] at hp
  exact hl i c p hc hp
 ·
  rw [List.getElem?_append_right (by omega)] at hc
  rw [List.getElem?_append_right (by omega), hf, ← hC] at hp
  exact hm _ c p hc hp
theorem apdV_sound {e : Bool} {t tx ty : TypeId} {cst : Array Bool} {u x : V} {a b : Value} {K : KV} (r : Rel μ Im σ w) (hu : RepV w Im μ u a) (hx : RepV w Im μ x b) (h : apdV P e t tx u x σ K) : Runs e μ Im σ w K fun k => bltK P .append #[t, tx] ty cst [a, b] w k := by
 intro k hk
 unfold apdV at h
 split at h
 ·
  rename_i et z et' zx hel helx
  obtain ⟨ht, hz⟩ := elOf_spec hel
  obtain ⟨htx, hzx⟩ := elOf_spec helx
  split at h
  ·
   rename_i C y hze hby
   split at h
   ·
    rename_i hcond
    obtain ⟨hy0, hCz, rfl⟩ := hcond
    obtain ⟨m, ad, cap, D, rfl, hD, hG⟩ := rowK_sound r hx h
    unfold apdU at hG
    split at hG
    ·
     rename_i o z' off len
     split at hG
     ·
      rename_i hc1
      obtain ⟨rfl, rfl, rfl⟩ := hc1
      obtain ⟨ob, hob, hG⟩ := obV_sound hG
      unfold apdO at hG
      split at hG
      ·
       rename_i z'' l
       split at hG
       ·
        rename_i hc2
        obtain ⟨rfl, rfl, hbytes⟩ := hc2
        obtain ⟨loc, hloc, hzl, hO⟩ := r.rep _ _ hob
        cases hu with
        | @sl _ _ _ _ capu adu hs =>
         rw [hloc] at hs
         obtain ⟨hlc, hs⟩ := hs
         obtain ⟨cs, hown, hcr, hfp⟩ : ∃ cs, OwnC w (.slice adu l.length capu) l.length z'' cs ∧ (∀ (i : Nat) c p, cs[i]? = some c → l.flatten[i]? = some p → RepP w Im p c) ∧ (∀ q ∈ fpv (.slice adu l.length capu), ∃ n, loc = some (q, n)) := by
          rcases hO with ⟨rfl, rfl⟩ | ⟨bb, CC, rfl, hB, hCl, hr⟩
          ·
           obtain ⟨rfl, _, rfl, _⟩ := hs
           exact ⟨[], OwnC.nil _ _, by simp, by simp [fpv]⟩
          ·
           obtain ⟨ha, hn⟩ := hs
           have ha' := ha (.inr rfl)
           simp only [Nat.zero_mul, Nat.zero_add] at ha' hn
           subst ha'
           refine ⟨CC.take (l.length * z''), ⟨by simp; omega, .inr ⟨bb, CC, capu, rfl, hB, hn, hlc, rfl⟩⟩, fun i c p hc hp => ?_, fun q hq => by simp [fpv] at hq; subst hq; exact ⟨_, rfl⟩⟩
           rw [List.getElem?_take] at hc
           split at hc
           ·
            exact hr i c p hc hp
           ·
            cases hc
         refine append_own (ty := ty) (cst := cst) ht htx hz hby hy0 hze hCz hown hD.row hD.len hD.one (by omega) fun v' w' hv' hE hF => ?_
         have hEl : Ext (live μ σ) w w' := hE.mono (fun q hq => by
          obtain ⟨n, rfl⟩ := hfp q hq
          exact .inl (mem_live.2 ⟨o, n, _, hloc, hob⟩))
         have mn : Mono μ Im w μ Im w' := ⟨List.prefix_refl _, fun _ h => h, fun q hq => hEl.block q (r.im q hq).1 (r.im q hq).2⟩
         obtain ⟨loc', k1, k2, k3⟩ := own_obj (Im := Im) (m := l ++ m) hv' (by simp) (fun e he => (List.mem_append.1 he).elim (hzl e) (hD.siz e)) (fun i c p hc hp => (flat_app hown.1 hzl hcr hD.rep hc hp).mono mn)
         obtain ⟨r', s'⟩ := r.renew (loc' := loc') (ob' := .row z'' (l ++ m)) hob hloc hEl (fun c hc hne => by
           obtain ⟨_, _, _, hc1, hc2⟩ := mem_live.1 hc
           exact hE.block c (r.lt hc) (fun hm => by obtain ⟨n, e⟩ := hfp c hm; exact hne n e)) (fun b q e => by
           rcases hF b (k1 b q e) with h | h
           ·
            exact .inl (hfp b h)
           ·
            exact .inr h) (k2 _)
         refine hk _ _ _ _ _ _ r' s' (fun h => by cases h) (k3 _ _ ?_) hG
         rw [get_snoc, if_neg (by simp [r.len]), if_pos (by simp [r.len])]
       ·
        exact hG.elim
      ·
       exact hG.elim
     ·
      exact hG.elim
    ·
     split at hG
     ·
      rename_i hbytes
      cases hu
      refine append_own (ty := ty) (cst := cst) ht htx hz hby hy0 hze hCz (OwnC.nil w _) hD.row hD.len hD.one (by rw [Nat.zero_add]; exact hbytes) fun v' w' hv' hE hF => ?_
      have hE' : Ext [] w w' := hE.mono (by simp [fpv])
      have mn : Mono μ Im w μ Im w' := ⟨List.prefix_refl _, fun _ h => h, fun q hq => hE'.block q (r.im q hq).1 (by simp)⟩
      rw [List.nil_append, Nat.zero_add] at hv'
      obtain ⟨loc', k1, k2, k3⟩ := own_obj (Im := Im) (m := m) hv' rfl hD.siz (fun i c p hc hp => (hD.rep i c p hc hp).mono mn)
      obtain ⟨r', s'⟩ := r.add (loc := loc') (ob := .row zx m) hE' (fun b q e => by
        rcases hF b (k1 b q e) with h | h
        ·
         simp [fpv] at h
        ·
         exact h) (k2 _)
      refine hk _ _ _ _ _ _ r' s' (fun _ => hE') (k3 _ _ ?_) hG
      rw [get_snoc, if_neg (by simp [r.len]), if_pos (by simp [r.len])]
     ·
      exact hG.elim
    ·
     split at hG
     ·
      rename_i z' l hc1
      obtain ⟨rfl, hm0, hbytes⟩ := hc1
      cases hu with
      | @xrow _ len _ adu hp =>
       cases hp with
       | @row _ _ _ _ _ CC hl hcap hzl hR hI hn ho hr =>
        subst hl
        refine append_fresh (ty := ty) (cst := cst) (n := l.length) (m := m.length) ht htx hz hby hy0 hze hCz hR hn hD.row hD.len hD.one (by omega) (by omega) fun v' w' hv' hE' hF => ?_
        have mn : Mono μ Im w μ Im w' := ⟨List.prefix_refl _, fun _ h => h, fun q hq => hE'.block q (r.im q hq).1 (by simp)⟩
        obtain ⟨loc', k1, k2, k3⟩ := own_obj (Im := Im) (m := l ++ m) hv' (by simp) (fun e he => (List.mem_append.1 he).elim (hzl e) (hD.siz e)) (fun i c p hc hp => (flat_app hn hzl hr hD.rep hc hp).mono mn)
        obtain ⟨r', s'⟩ := r.add (loc := loc') (ob := .row z' (l ++ m)) hE' (fun b q e => hF b (k1 b q e)) (k2 _)
        refine hk _ _ _ _ _ _ r' s' (fun _ => hE') (k3 _ _ ?_) hG
        rw [get_snoc, if_neg (by simp [r.len]), if_pos (by simp [r.len])]
     ·
      exact hG.elim
    ·
     exact hG.elim
   ·
    exact h.elim
  ·
   exact h.elim
 ·
  exact h.elim
theorem isByt_spec {t : TypeId} (h : isByt P t = true) : ∃ e, P.underlying t = some (.slice e) ∧ P.underlying e = some (.int .u8) := by
 unfold isByt at h
 split at h
 ·
  rename_i e he
  split at h
  ·
   rename_i h1 h2; exact ⟨e, he, h1⟩
  ·
   cases h
 ·
  cases h
theorem bytK_sound : ∀ {m : List (List PV)} {G : List UInt8 → Prop} {C : List Value}, bytK m G → C.length = m.length → (∀ (i : Nat) c p, C[i]? = some c → m.flatten[i]? = some p → RepP w Im p c) → ∃ ns : List Int, C = ns.map (Value.int .u8) ∧ G (ns.map fun n => UInt8.ofNat n.toNat)
 | [], G, C, h, hl, _ => ⟨[], List.length_eq_zero_iff.1 (by simpa using hl), h⟩
 | e :: m, G, C, h, hl, hr => by
  unfold bytK at h
  split at h
  ·
   rename_i heq; cases heq
  ·
   rename_i n r heq
   cases heq
   cases C with
   | nil => simp at hl
   | cons c C =>
    have h0 := hr 0 c (.lit (.int .u8 n)) rfl (by simp)
    cases h0
    obtain ⟨ns, rfl, hG⟩ := bytK_sound h (by simpa using hl) (fun i c p h1 h2 => hr (i + 1) c p (by simpa using h1) (by simpa using h2))
    exact ⟨n :: ns, rfl, hG⟩
  ·
   exact h.elim
theorem push_bytes : ∀ (ns : List Int) (s : List UInt8), ns.foldl (fun (r : ByteArray) n => r.push (UInt8.ofNat n.toNat)) (bs s) = bs (s ++ ns.map fun n => UInt8.ofNat n.toNat)
 | [], s => by simp
 | n :: ns, s => by
  have e : (bs s).push (UInt8.ofNat n.toNat) = bs (s ++ [UInt8.ofNat n.toNat]) := by
   unfold bs ByteArray.push
   simp
  rw [List.foldl_cons, e, push_bytes ns]
  simp
theorem cvsV_sound {s t : TypeId} {u : V} {a : Value} {F : FV} (r : Rel μ Im σ w) (hu : RepV w Im μ u a) (h : cvsV P s t u σ F) : ∃ u' v', RepV w Im μ u' v' ∧ F true u' ∧ ∀ w', Ext [] w w' → ∀ k : Kv, cvtK P s t a w' k = k true v' w' := by
 unfold cvsV at h
 split at h
 ·
  rename_i hc
  obtain ⟨e, hs, he⟩ := isByt_spec hc.1
  have ht := isStr_spec hc.2
  obtain ⟨m, ad, cap, C, rfl, hR, hG⟩ := rowK_sound r hu h
  obtain ⟨ns, hC, hF⟩ := bytK_sound hG (by rw [hR.len, Nat.mul_one]) hR.rep
  refine ⟨_, _, .lit rfl, hF, fun w' hx k => ?_⟩
  have hlen : ns.length = m.length := by have := hR.len; rw [hC] at this; simpa using this
  have hbs : (Conv.bytesToString (.slice ad m.length cap)).run P w' = .ok (.string (bs (ns.map fun n => UInt8.ofNat n.toNat))) w' := by
   cases ad with
   | none =>
    have : ns = [] := by
     cases ns with
     | nil => rfl
     | cons n ns =>
      have := hR.row.1 (by rw [hC]; simp)
      cases this
    subst this
    rfl
   | some x =>
    have hrow := hR.row.ext' hx
    have hld : (loadCells x m.length).run P w' = .ok (ns.map (Value.int .u8)).toArray w' := by
     cases ns with
     | nil =>
      have : m.length = 0 := by simpa using hlen.symm
      rw [this]
      rfl
     | cons n ns =>
      have ha := hrow.1 (by rw [hC]; simp)
      have h2 := Go.Eng.run_loadCells (P := P) (cs := C) (b := ab (some x)) (o := ao (some x)) (fun i hi => hrow.2 i hi)
      have hx' : x = ⟨ab (some x), ao (some x), none⟩ := Option.some.inj ha
      rw [← hx', hC] at h2
      rw [← hlen]
      simpa using h2
    rw [run_bytesToString w' x m.length cap ns hld]
    have := push_bytes ns []
    simp only [List.nil_append] at this
    exact congrArg (fun z => Result.ok (Value.string z) w') this
  unfold cvtK runK convert
  simp only [Sem.run_bind, run_underlying hs, run_underlying ht, Result.andThen_ok, run_underlying he, hbs]
  rfl
 ·
  obtain ⟨u', v', h1, h2, h3⟩ := cvtV_sound hu h
  exact ⟨u', v', h1, h2, fun w' _ k => h3 w' k⟩
theorem Rel.grow (r : Rel μ Im σ w) (hx : Ext [] w w') {b : Nat} (h1 : w.heap.size ≤ b) (h2 : b < w'.heap.size) : Rel μ (fun c => Im c ∨ c = b) σ w' ∧ Stp μ Im σ w μ (fun c => Im c ∨ c = b) σ w' := by
 have hm : Mono μ Im w μ (fun c => Im c ∨ c = b) w' := ⟨List.prefix_refl _, fun _ h => .inl h, fun b hb => hx.block b (r.im b hb).1 (by simp)⟩
 refine ⟨⟨r.len, fun o ob h => ?_, r.inj, fun c hc => ?_, r.lay.mono hm⟩, ⟨List.prefix_refl _, fun _ h => .inl h, hx.mono (by simp), fun _ h => .inl h, fun c hc => ?_⟩⟩
 ·
  obtain ⟨loc, h1, h2⟩ := r.rep o ob h
  refine ⟨loc, h1, h2.mono hm (fun b n e => ?_)⟩
  subst e
  exact hx.block b (r.lt (mem_live.2 ⟨o, n, ob, h1, h⟩)) (by simp)
 ·
  rcases hc with hc | rfl
  ·
   exact ⟨Nat.lt_of_lt_of_le (r.im c hc).1 hx.size, (r.im c hc).2⟩
  ·
   exact ⟨h2, fun hl => by have := r.lt hl; omega⟩
 ·
  rcases hc with hc | rfl
  ·
   exact .inl hc
  ·
   exact .inr (.inr h1)
theorem sbyV_sound {e : Bool} {s t : TypeId} {u : V} {a : Value} {K : KV} (r : Rel μ Im σ w) (hu : RepV w Im μ u a) (h : sbyV P s t u σ K) : Runs e μ Im σ w K fun k => cvtK P s t a w k := by
 intro k hk
 unfold sbyV at h
 split at h
 ·
  rename_i hc
  split at h
  ·
   rename_i b
   cases hu
   obtain ⟨el, ht, he⟩ := isByt_spec hc.2
   unfold cvtK runK
   rw [run_bytes_of_string w s t el b (isStr_spec hc.1) ht he]
   have hcap := grownCap_ge w b.size 0 el
   generalize grownCap w b.size 0 el = cap at *
   have hsz : b.data.toList.length = b.size := Array.length_toList
   have hE : Ext [] w (w.drew.alloc (.cells (bytesRow b cap) el ((bytesRow b cap).size, (bytesRow b cap).size + 1))) := (Ext.refl [] w).drew.alloc _
   have hnew : (w.drew.alloc (.cells (bytesRow b cap) el ((bytesRow b cap).size, (bytesRow b cap).size + 1))).heap[w.heap.size]? = some (.cells (bytesRow b cap) el ((bytesRow b cap).size, (bytesRow b cap).size + 1)) := heap_alloc_new w.drew _
   have hlt : w.heap.size < (w.drew.alloc (.cells (bytesRow b cap) el ((bytesRow b cap).size, (bytesRow b cap).size + 1))).heap.size := by
    show w.heap.size < (w.heap.push _).size
    rw [Array.size_push]
    omega
   generalize w.drew.alloc (.cells (bytesRow b cap) el ((bytesRow b cap).size, (bytesRow b cap).size + 1)) = w2 at *
   obtain ⟨r', s'⟩ := r.grow hE (Nat.le_refl _) hlt
   have hrow : Row w2 (some ⟨w.heap.size, 0, none⟩) (b.data.toList.map fun x => Value.int .u8 (x.toNat : Int)) := by
    refine ⟨fun _ => rfl, fun i hi => ?_⟩
    rw [List.length_map] at hi
    unfold World.cell?
    simp only [ab, ao, Option.map_some, Option.getD_some, Nat.zero_add]
    show (match w2.heap[w.heap.size]? with | some (.cells c _ _) => _ | _ => none) = _
    rw [hnew]
    simp only [Option.isSome_none, Bool.false_eq_true, if_false]
    unfold bytesRow
    have hi2 : i < b.data.size := by simpa using hi
    rw [Array.getElem?_append_left (by simpa using hi2)]
    rw [Array.getElem?_map, Array.getElem?_eq_getElem hi2, List.getElem_map, Array.getElem_toList]
    rfl
   refine hk _ _ _ _ _ _ r' s' (fun _ => hE) (.row (.row (a := some ⟨w.heap.size, 0, none⟩) (C := b.data.toList.map fun x => Value.int .u8 (x.toNat : Int)) (by rw [List.length_map, hsz]) hcap (fun e he => by
     obtain ⟨x, _, rfl⟩ := List.mem_map.1 he
     rfl) hrow (fun _ => .inr rfl) (by rw [List.length_map, hsz, Nat.mul_one]) (fun c hc => by
     obtain ⟨x, _, rfl⟩ := List.mem_map.1 hc
     rfl) fun i c p h1 h2 => ?_)) h
   have hfl : (b.data.toList.map fun x => [PV.lit (.int .u8 (x.toNat : Int))]).flatten = b.data.toList.map fun x => PV.lit (.int .u8 (x.toNat : Int)) := by
    induction b.data.toList with
    | nil => rfl
    | cons x l ih => simp [ih]
   rw [hfl, List.getElem?_map] at h2
   rw [List.getElem?_map] at h1
   cases hx : b.data.toList[i]? with
   | none => rw [hx] at h1; cases h1
   | some x =>
    rw [hx] at h1 h2
    cases h1; cases h2
    exact .lit rfl
  ·
   exact h.elim
 ·
  obtain ⟨u', v', h4, h5, h6⟩ := cvsV_sound r hu h
  rw [h6 w (Ext.refl _ _)]
  exact hk _ _ _ _ _ _ r (Stp.refl _ _ _ _) (fun _ => Ext.refl _ _) h4 h5
end
end Go.Vx

namespace Go.Vx
open Go.Eng
set_option linter.unusedSimpArgs false
set_option linter.unusedVariables false
section
variable {w w' : World} {Im : Nat → Prop} {μ : Mu} {σ : St} {ρ : Vg} {ρc : Rg} {P : Program}

theorem bltK_copy_none {t tx et ty : TypeId} {cst : Array Bool} {a ad : Option Addr} {n c cap z : Nat} {k : Kv} (ht : P.underlying t = some (.slice et)) (hz : szOf P et = some z) : bltK P .copy #[t, tx] ty cst [.slice a n c, .slice ad 0 cap] w k = k true (.int .i64 (0 : Nat)) w := by
 have hrun : (Builtin.copy_ #[t, tx] ty #[.slice a n c, .slice ad 0 cap]).run P w = .ok (.int .i64 (0 : Nat)) w := by
  unfold Builtin.copy_
  have hmin : Nat.min 0 n = 0 := Nat.min_eq_left (Nat.zero_le _)
  simp only [List.getElem?_toArray, List.getElem?_cons_zero, List.getElem?_cons_succ, Sem.run_bind, run_underlying ht, Result.andThen_ok, Go.Eng.run_sizeOf hz, Builtin.lenOf, pure_bind, hmin]
  have hf : (Builtin.firstCells z 0 (.slice ad 0 cap)).run P w = .ok #[] w := by
   have := run_firstCells (P := P) (w := w) (a := ad) (n := 0) (z := z) (len := 0) (cap := cap) (Row.nil w ad) (by simp) (by simp)
   simpa using this
  rw [hf]
  cases a <;> rfl
 unfold bltK nextK runK builtin
 simp only [Sem.run_bind, hrun, Result.andThen_ok]
 rfl
theorem set_same {α : Type} {l : List α} {i : Nat} {x : α} (h : l[i]? = some x) : l.set i x = l := by
 apply List.ext_getElem?
 intro j
 by_cases e : i = j
 ·
  subst e; rw [List.getElem?_set_self (get_lt h), h]
 ·
  rw [List.getElem?_set_ne e]
theorem cpyV_sound {t tx ty : TypeId} {cst : Array Bool} {u x : V} {a b : Value} {K : KV} (r : Rel μ Im σ w) (hu : RepV w Im μ u a) (hx : RepV w Im μ x b) (h : cpyV P t tx u x σ K) : Runs false μ Im σ w K fun k => bltK P .copy #[t, tx] ty cst [a, b] w k := by
 intro k hk
 unfold cpyV at h
 split at h
 ·
  rename_i et z et' zx hel helx
  obtain ⟨ht, hz⟩ := elOf_spec hel
  split at h
  ·
   rename_i e
   subst e
   obtain ⟨m, ad, cap, D, rfl, hD, hG⟩ := rowK_sound r hx h
   unfold cpyU at hG
   split at hG
   ·
    rename_i o z' off len
    split at hG
    ·
     rename_i hc
     obtain ⟨rfl, hml⟩ := hc
     obtain ⟨ob, hob, hG⟩ := obV_sound hG
     unfold cpyO at hG
     split at hG
     ·
      rename_i z'' l
      split at hG
      ·
       rename_i hc2
       obtain ⟨rfl, hle⟩ := hc2
       cases hu with
       | @sl _ _ _ _ capu adu hs =>
        obtain ⟨hlc, hs⟩ := hs
        by_cases hm0 : m.length = 0
        ·
         have : m = [] := List.length_eq_zero_iff.1 hm0
         subst this
         have e1 : (l.take off ++ [] ++ l.drop (off + ([] : List (List PV)).length)) = l := by simp
         rw [e1, set_same hob] at hG
         have e2 : ([] : List (List PV)).length = 0 := rfl
         rw [e2] at hG ⊢
         rw [bltK_copy_none ht hz]
         exact hk _ _ _ _ _ _ r (Stp.refl _ _ _ _) (fun h => by cases h) (.lit rfl) hG
        ·
         obtain ⟨loc, hloc, hzl, hO⟩ := r.rep _ _ hob
         rw [hloc] at hs
         rcases hO with ⟨rfl, rfl⟩ | ⟨bb, CC, rfl, hB, hCl, hr⟩
         ·
          obtain ⟨_, h0, _⟩ := hs; omega
         ·
          obtain ⟨ha, hn⟩ := hs
          have ha' := ha (.inl (by omega))
          subst ha'
          have hmz : off * z'' + m.length * z'' ≤ l.length * z'' := by rw [← Nat.add_mul]; exact Nat.mul_le_mul_right z'' (by omega)
          have hDl := hD.len
          rw [bltK_copy (P := P) ht hz hB hD.row hD.len hD.one hml (by omega)]
          have hE : Ext [bb] w (if D = [] then w else setB w bb (setL CC (off * z'') D)) := by
           split
           ·
            exact Ext.refl _ _
           ·
            exact setB_ext _ _ _
          have hlive : bb ∈ live μ σ := mem_live.2 ⟨o, _, _, hloc, hob⟩
          have mn : Mono μ Im w μ Im (if D = [] then w else setB w bb (setL CC (off * z'') D)) := ⟨List.prefix_refl _, fun _ h => h, fun q hq => hE.block q (r.im q hq).1 (by
           simp only [List.mem_singleton]
           intro e
           subst e
           exact (r.im q hq).2 hlive)⟩
          have hB' : Blk (if D = [] then w else setB w bb (setL CC (off * z'') D)) bb (setL CC (off * z'') D) := by
           split
           ·
            rename_i e; subst e; simpa [setL] using hB
           ·
            exact setB_heap hB
          have hlen : (setL CC (off * z'') D).length = CC.length := setL_length _ _ _
          have hzm : ∀ e ∈ l.take off ++ m ++ l.drop (off + m.length), e.length = z'' := by
           intro e he
           simp only [List.mem_append] at he
           rcases he with (he | he) | he
           ·
            exact hzl e (List.mem_of_mem_take he)
           ·
            exact hD.siz e he
           ·
            exact hzl e (List.mem_of_mem_drop he)
          have hflat : (l.take off ++ m ++ l.drop (off + m.length)).flatten = l.flatten.take (off * z'') ++ m.flatten ++ l.flatten.drop (off * z'' + m.length * z'') := by
           rw [List.flatten_append, List.flatten_append, flat_take off hzl, flat_drop _ hzl, Nat.add_mul]
          have hlf := flat_len hzl
          have hmf := flat_len hD.siz
          obtain ⟨r', s'⟩ := r.upd (ob' := .row z'' (l.take off ++ m ++ l.drop (off + m.length))) hob hloc hE ⟨hzm, .inr ⟨bb, setL CC (off * z'') D, by rw [hlen], hB', by
            rw [hlen]
            have : (l.take off ++ m ++ l.drop (off + m.length)).length = l.length := by simp; omega
            rw [this]; exact hCl, fun i c p hc hp => by
            rw [setL_get _ _ _ _ (by omega)] at hc
            rw [hflat] at hp
            by_cases h1 : i < off * z''
            ·
             rw [if_neg (by omega)] at hc
             rw [List.append_assoc, List.getElem?_append_left (by simp only [List.length_take, List.length_append, List.length_drop]; omega), List.getElem?_take, if_pos h1] at hp
             exact (hr i c p hc hp).mono mn
            ·
             by_cases h2 : i < off * z'' + m.length * z''
             ·
              rw [if_pos (by omega)] at hc
              rw [List.append_assoc, List.getElem?_append_right (by simp only [List.length_take, List.length_append, List.length_drop]; omega), List.getElem?_append_left (by simp only [List.length_take, List.length_append, List.length_drop]; omega)] at hp
              refine (hD.rep _ c p hc ?_).mono mn
              rw [← hp]
              congr 1
              simp only [List.length_take, List.length_append, List.length_drop]
              omega
             ·
              rw [if_neg (by omega)] at hc
              rw [List.append_assoc, List.getElem?_append_right (by simp only [List.length_take, List.length_append, List.length_drop]; omega), List.getElem?_append_right (by simp only [List.length_take, List.length_append, List.length_drop]; omega), List.getElem?_drop] at hp
              refine (hr i c p hc ?_).mono mn
              rw [← hp]
              congr 1
              simp only [List.length_take, List.length_append, List.length_drop]
              omega⟩⟩
          exact hk _ _ _ _ _ _ r' s' (fun h => by cases h) (.lit rfl) hG
      ·
       exact hG.elim
     ·
      exact hG.elim
    ·
     exact hG.elim
   ·
    exact hG.elim
  ·
   exact h.elim
 ·
  exact h.elim
theorem lenV_sound {t et ty : TypeId} {z : Nat} {cst : Array Bool} {u : V} {a : Value} {F : FV} (hel : elOf P t = some (et, z)) (hu : RepV w Im μ u a) (h : lenV u F) : Comes w Im μ F fun w' k => bltK P .len #[t] ty cst [a] w' k := by
 obtain ⟨ht, _⟩ := elOf_spec hel
 unfold lenV at h
 split at h
 ·
  cases hu with
  | row hp => cases hp with
   | row hl _ _ _ _ _ _ _ => subst hl; exact ⟨_, _, .lit rfl, h, fun _ _ => bltK_len_slice ht⟩
 ·
  cases hu with
  | xrow hp => cases hp with
   | row hl _ _ _ _ _ _ _ => subst hl; exact ⟨_, _, .lit rfl, h, fun _ _ => bltK_len_slice ht⟩
 ·
  cases hu with
  | sl _ => exact ⟨_, _, .lit rfl, h, fun _ _ => bltK_len_slice ht⟩
 ·
  cases hu
  exact ⟨_, _, .lit rfl, h, fun _ _ => bltK_len_slice ht⟩
 ·
  exact h.elim
theorem lenW_sound {t ty : TypeId} {cst : Array Bool} {u : V} {a : Value} {F : FV} (hu : RepV w Im μ u a) (h : lenW P t u F) : Comes w Im μ F fun w' k => bltK P .len #[t] ty cst [a] w' k := by
 unfold lenW at h
 split at h
 ·
  rename_i s
  split at h
  ·
   rename_i hst
   have ht := isStr_spec hst
   cases hu
   refine ⟨_, _, .lit rfl, h, fun w' k => ?_⟩
   dsimp only
   unfold bltK nextK runK builtin Builtin.len_
   simp only [Sem.run_bind, List.getElem?_toArray, List.getElem?_cons_zero]
   simp only [run_underlying ht, Result.andThen_ok]
   rfl
  ·
   exact h.elim
 ·
  split at h
  ·
   rename_i ez hel
   exact lenV_sound (et := ez.1) (z := ez.2) hel hu h
  ·
   exact h.elim
theorem Comes.runs {e : Bool} {K : KV} {op : World → Kv → Prop} (r : Rel μ Im σ w) (h : Comes w Im μ (fun τ u => K τ u σ) op) : Runs e μ Im σ w K fun k => op w k := by
 intro k hk
 obtain ⟨u, v, h1, h2, h3⟩ := h
 rw [h3]
 exact hk _ _ _ _ _ _ r (Stp.refl _ _ _ _) (fun _ => Ext.refl _ _) h1 h2
theorem callV_sound {e : Bool} {f : Nat} {us : List V} {vs : List Value} {K : KV} (r : Rel μ Im σ w) (hr : RepL w Im μ us vs) (h : callV P e f us σ K) : Runs e μ Im σ w K fun k => callK P f vs.toArray w k := by
 intro k hk
 exact cllK_mono (h μ Im w vs r hr) fun v w' ⟨u, σ', μ', Im', h1, h2, h3, h4, h5⟩ => hk _ _ _ _ _ _ h1 h2 h3 h4 h5
theorem bltV_sound {e : Bool} {b : Builtin} {al : List TypeId} {ty : TypeId} {cst : Array Bool} {us : List V} {vs : List Value} {K : KV} (r : Rel μ Im σ w) (h4 : RepL w Im μ us vs) (h5 : bltV P e b al us σ K) : Runs e μ Im σ w K fun k => bltK P b al.toArray ty cst vs w k := by
 unfold bltV at h5
 split at h5
 ·
  obtain ⟨v, vs', rfl, q1, q2⟩ := h4.uncons
  have : vs' = [] := List.length_eq_zero_iff.1 (by simpa using q2.1)
  subst this
  exact (lenW_sound q1 h5).runs r
 ·
  obtain ⟨v, vs', rfl, q1, q2⟩ := h4.uncons
  obtain ⟨v2, vs', rfl, q3, q4⟩ := q2.uncons
  have : vs' = [] := List.length_eq_zero_iff.1 (by simpa using q4.1)
  subst this
  exact apdV_sound r q1 q3 h5
 ·
  obtain ⟨v, vs', rfl, q1, q2⟩ := h4.uncons
  obtain ⟨v2, vs', rfl, q3, q4⟩ := q2.uncons
  have : vs' = [] := List.length_eq_zero_iff.1 (by simpa using q4.1)
  subst this
  cases e with
  | true => exact (h5 : False).elim
  | false => exact cpyV_sound r q1 q3 h5
 ·
  exact (min_sound h4 h5).runs r
 ·
  exact (max_sound h4 h5).runs r
 ·
  exact h5.elim
theorem mtOf_run {t : TypeId} {name : String} {f : FuncId} {i : IntKind} {a : Int} {args : Array Value} (h : mtOf P t name = some f) (w' : World) : (callMethod (.iface t (.int i a)) name args).run P w' = (callFunc f (#[.int i a] ++ args)).run P w' := by
 unfold mtOf at h
 split at h
 ·
  rename_i info hi
  split at h
  ·
   rename_i m hm
   split at h
   ·
    rename_i f' kk hp hf hu
    injection h with h
    subst h
    obtain ⟨nm, sig, path, func⟩ := m
    dsimp only at hp hf
    have hpe : path = #[] := by
     have := congrArg List.toArray hp
     simpa using this
    subst hpe hf
    have hrun : ∀ n, (method (n + 1) t (.int i a) name).run P w' = .ok (f', .int i a) w' := fun n => by
     unfold method
     rw [Sem.run_bind, Go.Eng.run_typeInfo hi, Result.andThen_ok]
     simp only [hm]
     rw [Sem.run_bind]
     show ((follow [] t (Place.val (.int i a))).run P w').andThen _ = _
     show ((Result.ok (t, Place.val (.int i a)) w') : Result (TypeId × Place)).andThen _ = _
     rw [Result.andThen_ok]
     dsimp only
     rw [Sem.run_bind]
     have hrec : ∀ o, (receiverAt t (Place.val (.int i a)) false o).run P w' = .ok (.int i a) w' := fun o => by
      unfold receiverAt
      rw [Sem.run_bind, run_underlying hu, Result.andThen_ok]
      rfl
     rw [hrec, Result.andThen_ok]
     rfl
    have hpos : 0 < Made.depth := by decide
    obtain ⟨n, hn⟩ : ∃ n, P.types.size + Made.depth = n + 1 := ⟨P.types.size + Made.depth - 1, by omega⟩
    unfold callMethod
    rw [Sem.run_bind]
    show ((Result.ok P w' : Result Program)).andThen _ = _
    rw [Result.andThen_ok, Sem.run_bind, hn, hrun, Result.andThen_ok]
   ·
    cases h
  ·
   cases h
 ·
  cases h
theorem invV_sound {e : Bool} {u : V} {a : Value} {name : String} {us : List V} {vs : List Value} {K : KV} (r : Rel μ Im σ w) (hu : RepV w Im μ u a) (hr : RepL w Im μ us vs) (h : invV P e u name us σ K) : Runs e μ Im σ w K fun k => nextK P (callMethod a name vs.toArray) w k := by
 unfold invV at h
 split at h
 ·
  split at h
  ·
   rename_i hf
   cases hu
   intro k hk
   have h2 := callV_sound r (.cons (.lit rfl) hr) h k hk
   have h3 := nextK_of_callK h2
   unfold nextK runK at h3 ⊢
   rw [mtOf_run hf]
   have e : ∀ (v : Value), #[v] ++ vs.toArray = (v :: vs).toArray := fun v => by simp
   rw [e]
   exact h3
  ·
   exact h.elim
 ·
  exact h.elim
theorem kyK_sound {u : V} {a : Value} {F : Int × Int × Bool → Prop} (hu : RepV w Im μ u a) (h : kyK u F) : ∃ k, a = kyA k ∧ F k := by
 unfold kyK at h
 split at h
 ·
  rename_i x y z
  cases hu with
  | @agg _ C hn ho hr =>
   match C, hn with
   | [c0, c1, c2], _ =>
    have h0 := hr 0 _ _ rfl rfl
    have h1 := hr 1 _ _ rfl rfl
    have h2 := hr 2 _ _ rfl rfl
    cases h0; cases h1; cases h2
    exact ⟨(x, y, z), rfl, h⟩
 ·
  exact h.elim
theorem ky_repL {k : Int × Int × Bool} : RepL w Im μ [.lit (.int .i64 k.1), .lit (.int .i64 k.2.1), .lit (.bool k.2.2)] [.int .i64 k.1, .int .i64 k.2.1, .bool k.2.2] :=
 .cons (.lit rfl) (.cons (.lit rfl) (.cons (.lit rfl) .nil))
theorem kyV_rep {k : Int × Int × Bool} : RepV w Im μ (kyV k) (kyA k) :=
 .agg (C := [.int .i64 k.1, .int .i64 k.2.1, .bool k.2.2]) rfl (by simp [oneC]) ky_repL.2
theorem kyOf_spec {t : TypeId} (h : kyOf P t = true) : ∃ f0 f1 f2 q0 q1, P.underlying t = some (.struct #[f0, f1, f2]) ∧ P.stoodInHeld t = false ∧ fkL P [f0, f1, f2] 0 = some [true, true, false] ∧
  (f0.name ≠ "_" ∧ f0.offset = 0 ∧ P.plainKey f0.type = true ∧ P.underlying f0.type = some (.int q0)) ∧ (f1.name ≠ "_" ∧ f1.offset = 1 ∧ P.plainKey f1.type = true ∧ P.underlying f1.type = some (.int q1)) ∧ (f2.name ≠ "_" ∧ f2.offset = 2 ∧ P.plainKey f2.type = true ∧ P.underlying f2.type = some .bool) := by
 unfold kyOf at h
 split at h
 ·
  rename_i fs hfs
  simp only [Bool.and_eq_true, decide_eq_true_eq, Bool.not_eq_true'] at h
  obtain ⟨h1, h2⟩ := h
  have hfs' : fs = fs.toList.toArray := by simp
  rw [hfs'] at hfs
  generalize fs.toList = l at *
  have step : ∀ {f : Field} {l : List Field} {j : Nat} {b : Bool} {r : List Bool}, fkL P (f :: l) j = some (b :: r) → fk1 P f j = some b ∧ fkL P l (j + 1) = some r := by
   intro f l j b r h
   unfold fkL at h
   split at h
   ·
    rename_i b' r' e1 e2
    cases h
    exact ⟨e1, e2⟩
   ·
    cases h
  match l, h1, hfs with
  | f0 :: l, h1, hfs =>
   obtain ⟨e0, h3⟩ := step h1
   match l, h1, h3, hfs with
   | f1 :: l, h1, h3, hfs =>
    obtain ⟨e1, h4⟩ := step h3
    match l, h1, h3, h4, hfs with
    | f2 :: l, h1, h3, h4, hfs =>
     obtain ⟨e2, h5⟩ := step h4
     match l, h1, h5, hfs with
     | [], h1, h5, hfs =>
      obtain ⟨a1, a2, a3, a4, _⟩ := fk1_spec e0
      obtain ⟨b1, b2, b3, b4, _⟩ := fk1_spec e1
      obtain ⟨c1, c2, c3, _, c4⟩ := fk1_spec e2
      obtain ⟨q0, a4⟩ := a4 rfl
      obtain ⟨q1, b4⟩ := b4 rfl
      exact ⟨f0, f1, f2, q0, q1, hfs, h2, h1, ⟨a1, a2, a3, a4⟩, ⟨b1, b2, b3, b4⟩, c1, c2, c3, c4 rfl⟩
     | f3 :: l, h1, h5, hfs =>
      unfold fkL at h5
      split at h5 <;> cases h5
    | [], h1, h3, h4, hfs => unfold fkL at h4; cases h4
   | [], h1, h3, hfs => unfold fkL at h3; cases h3
  | [], h1, hfs => unfold fkL at h1; cases h1
 ·
  cases h
theorem run_checkKey_ky {t : TypeId} (h : kyOf P t = true) (k : Int × Int × Bool) (em : Bool) (w' : World) : (Instr.checkKey em 10000 t (kyA k)).run P w' = .ok () w' := by
 obtain ⟨f0, f1, f2, q0, q1, hu, hs, hf, ⟨a1, a2, a3, a4⟩, ⟨b1, b2, b3, b4⟩, c1, c2, c3, c4⟩ := kyOf_spec h
 have p0 : (part f0.type #[.int .i64 k.1, .int .i64 k.2.1, .bool k.2.2] f0.offset).run P w' = .ok (.int .i64 k.1) w' := run_part_plain w' a3 (by rw [a2]; rfl)
 have p1 : (part f1.type #[.int .i64 k.1, .int .i64 k.2.1, .bool k.2.2] f1.offset).run P w' = .ok (.int .i64 k.2.1) w' := run_part_plain w' b3 (by rw [b2]; rfl)
 have p2 : (part f2.type #[.int .i64 k.1, .int .i64 k.2.1, .bool k.2.2] f2.offset).run P w' = .ok (.bool k.2.2) w' := run_part_plain w' c3 (by rw [c2]; rfl)
 unfold kyA
 rw [show (10000 : Nat) = 9999 + 1 from rfl, Instr.checkKey]
 simp only [Sem.run_bind, run_underlying hu, Result.andThen_ok]
 rw [← Array.forIn_toList]
 have k0 : (Instr.checkKey em 9999 f0.type (.int .i64 k.1)).run P w' = .ok () w' := by
  rw [show (9999 : Nat) = 9998 + 1 from rfl, Instr.checkKey]
  simp [run_underlying a4]
 have k1 : (Instr.checkKey em 9999 f1.type (.int .i64 k.2.1)).run P w' = .ok () w' := by
  rw [show (9999 : Nat) = 9998 + 1 from rfl, Instr.checkKey]
  simp [run_underlying b4]
 have k2 : (Instr.checkKey em 9999 f2.type (.bool k.2.2)).run P w' = .ok () w' := by
  rw [show (9999 : Nat) = 9998 + 1 from rfl, Instr.checkKey]
  simp [run_underlying c4]
 simp only [List.forIn_cons, List.forIn_nil, Sem.run_bind, a1, b1, c1, ne_eq, not_false_eq_true, if_true, Result.andThen_ok, p0, p1, p2, k0, k1, k2, Sem.run_pure]
theorem run_equal_ky {t : TypeId} (h : kyOf P t = true) (k k' : Int × Int × Bool) (w' : World) : (Op.equal t (kyA k) (kyA k')).run P w' = .ok (decide (k = k')) w' := by
 obtain ⟨f0, f1, f2, q0, q1, hu, hs, hf, -, -, -⟩ := kyOf_spec h
 have hfo : P.fieldsOf t = #[f0, f1, f2] := by unfold Program.fieldsOf; rw [hu]
 have r1 := ky_repL (w := w') (Im := fun _ => False) (μ := []) (k := k)
 have r2 := ky_repL (w := w') (Im := fun _ => False) (μ := []) (k := k')
 have hG : eqK [true, true, false] [V.lit (.int .i64 k.1), .lit (.int .i64 k.2.1), .lit (.bool k.2.2)] [V.lit (.int .i64 k'.1), .lit (.int .i64 k'.2.1), .lit (.bool k'.2.2)] fun r => r = decide (k = k') := by
  obtain ⟨x, y, z⟩ := k
  obtain ⟨x', y', z'⟩ := k'
  by_cases e1 : x = x' <;> by_cases e2 : y = y' <;> cases z <;> cases z' <;> simp [eqK, e1, e2]
 obtain ⟨r, hG, hrun⟩ := eqK_run (d := 9998) (C := [.int .i64 k.1, .int .i64 k.2.1, .bool k.2.2]) (D := [.int .i64 k'.1, .int .i64 k'.2.1, .bool k'.2.2]) (j := 0) hf r1 r2 hG
 subst hG
 show (Op.equalIn 10000 t (.agg #[.int .i64 k.1, .int .i64 k.2.1, .bool k.2.2]) (.agg #[.int .i64 k'.1, .int .i64 k'.2.1, .bool k'.2.2])).run P w' = _
 rw [run_equalIn_struct w' 9999 t _ _ (by rw [hfo]; exact hu) hs, hfo]
 exact hrun w'
theorem run_find_ky {t : TypeId} (h : kyOf P t = true) (k : Int × Int × Bool) (w' : World) : ∀ (es : List MapEntry) (l : ML) (i : Nat), es.length = l.length → (∀ (j : Nat) e x, es[j]? = some e → l[j]? = some x → e.key = kyA x.1) →
  ((Instr.findAsking t (kyA k) es i).run P w' = .ok none w' ∧ lookM k l = none ∧ ∀ v, putM k v l = l ++ [(k, v)]) ∨
  ∃ j e x, (Instr.findAsking t (kyA k) es i).run P w' = .ok (some (i + j, e.val)) w' ∧ es[j]? = some e ∧ l[j]? = some (k, x) ∧ lookM k l = some x ∧ ∀ v, putM k v l = l.set j (k, v)
 | [], [], i, _, _ => .inl ⟨by simp [Instr.findAsking], rfl, fun v => rfl⟩
 | [], _ :: _, i, hl, _ => by simp at hl
 | _ :: _, [], i, hl, _ => by simp at hl
 | e :: es, (k', x) :: l, i, hl, hk => by
  have he : e.key = kyA k' := hk 0 e (k', x) rfl rfl
  have heq := run_equal_ky h k k' w'
  by_cases hkk : k = k'
  ·
   subst hkk
   rw [decide_eq_true rfl] at heq
   exact .inr ⟨0, e, x, by simp [Instr.findAsking, he, heq], rfl, rfl, by simp [lookM], fun v => by simp [putM]⟩
  ·
   rw [decide_eq_false hkk] at heq
   have hkk' : ¬ k' = k := fun e => hkk e.symm
   rcases run_find_ky h k w' es l (i + 1) (by simpa using hl) (fun j e x h1 h2 => hk (j + 1) e x (by simpa using h1) (by simpa using h2)) with ⟨h1, h2, h3⟩ | ⟨j, e', x', h1, h2, h3, h4, h5⟩
   ·
    exact .inl ⟨by simp [Instr.findAsking, he, heq, h1], by simp [lookM, hkk', h2], fun v => by simp [putM, hkk', h3]⟩
   ·
    exact .inr ⟨j + 1, e', x', by simp [Instr.findAsking, he, heq, h1, Nat.add_assoc, Nat.add_comm 1 j], by simpa using h2, by simpa using h3, by simp [lookM, hkk', h4], fun v => by simp [putM, hkk', h5]⟩
theorem mpOf_spec {t : TypeId} {C : List Value} (h : mpOf P t = some C) : ∃ k e, P.underlying t = some (.map k e) ∧ kyOf P k = true ∧ aggZ P e = some C := by
 unfold mpOf at h
 split at h
 ·
  rename_i k e hu
  split at h
  ·
   rename_i hk
   exact ⟨k, e, hu, hk, h⟩
  ·
   cases h
 ·
  cases h
theorem run_aggZ {t : TypeId} {C : List Value} (h : aggZ P t = some C) (w' : World) : (zeroValue t).run P w' = .ok (.agg C.toArray) w' := by
 unfold aggZ at h
 split at h
 ·
  rename_i a hz
  cases h
  rw [run_zero hz]
 ·
  cases h
theorem run_findKey_ky {t : TypeId} (h : kyOf P t = true) (k : Int × Int × Bool) (w' : World) (es : List MapEntry) : (Instr.findKey t (kyA k) es).run P w' = (Instr.findAsking t (kyA k) es).run P w' := by
 obtain ⟨f0, f1, f2, q0, q1, hu, -⟩ := kyOf_spec h
 exact run_findKey_eq w' (by rw [hu]) _ _
theorem obM_sound {u : V} {a : Value} {F : Nat → ML → Prop} (r : Rel μ Im σ w) (hu : RepV w Im μ u a) (h : obM σ u F) : ∃ o l b es, a = .map (some b) ∧ σ[o]? = some (some (.map l)) ∧ μ[o]? = some (some (b, 0)) ∧ w.heap[b]? = some (.map es es.size) ∧ es.size = l.length ∧ (∀ (i : Nat) e x, es[i]? = some e → l[i]? = some x → EntR w Im i x e) ∧ F o l ∧ u = .mref o := by
 unfold obM at h
 split at h
 ·
  rename_i o
  obtain ⟨ob, hob, h⟩ := obV_sound h
  unfold mpO at h
  split at h
  ·
   rename_i l
   obtain ⟨loc, hl, b, es, rfl, hB, hn, hr⟩ := r.rep _ _ hob
   cases hu with
   | mref hm =>
    rw [hl] at hm
    cases hm
    exact ⟨o, l, b, es, rfl, hob, hl, hB, hn, hr, h, rfl⟩
  ·
   exact h.elim
 ·
  exact h.elim
theorem ents_key {es : Array MapEntry} {l : ML} (hr : ∀ (i : Nat) e x, es[i]? = some e → l[i]? = some x → EntR w Im i x e) : ∀ (j : Nat) e x, es.toList[j]? = some e → l[j]? = some x → e.key = kyA x.1 := fun j e x h1 h2 => (hr j e x (by simpa using h1) h2).2.1
theorem RepPs.toL {ps : List PV} {C : List Value} (h : RepPs w Im ps C) : RepL w Im μ (ps.map V.ofP) C :=
 ⟨by rw [List.length_map]; exact h.1, fun i u c h1 h2 => by
  rw [List.getElem?_map] at h1
  cases hp : ps[i]? with
  | none => rw [hp] at h1; cases h1
  | some p =>
   rw [hp] at h1
   cases h1
   have h3 := h.2 i c p h2 hp
   cases h3 with
   | lit h => exact .lit h
   | row q1 q2 q3 q4 q5 q6 q7 q8 => exact .row (.row q1 q2 q3 q4 q5 q6 q7 q8)
   | ptr q1 q2 q3 q4 q5 q6 => exact .rref q1 q2 q3 q4 q5 q6⟩
theorem RepPs.toV {ps : List PV} {C : List Value} (ho : ∀ c ∈ C, oneC c = true) (h : RepPs w Im ps C) : RepV w Im μ (.agg (ps.map V.ofP)) (.agg C.toArray) := .agg (h.toL (μ := μ)).1 ho h.toL.2
theorem lupV_sound {e : Bool} {t : TypeId} {u v : V} {a b : Value} {K : KV} (r : Rel μ Im σ w) (hu : RepV w Im μ u a) (hv : RepV w Im μ v b) (h : lupV P t u v σ fun τ u => K τ u σ) : Runs e μ Im σ w K fun k => runK P (Instr.lookup t a b false) w (k true) := by
 intro k hk
 unfold lupV at h
 split at h
 ·
  rename_i C hC
  obtain ⟨kt, et, ht, hkt, hz⟩ := mpOf_spec hC
  obtain ⟨hone, h⟩ := allOne_iff.1 h
  obtain ⟨o, l, bb, es, rfl, hob, hμ, hB, hn, hr, h, -⟩ := obM_sound r hu h
  obtain ⟨ky, rfl, h⟩ := kyK_sound hv h
  have hget : (getObj bb).run P w = .ok (.map es es.size) w := by simp [getObj, Sem.run, hB]
  unfold runK
  have hrun : (Instr.lookup t (.map (some bb)) (kyA ky) false).run P w = ((Instr.findAsking kt (kyA ky) es.toList).run P w).andThen fun x w' => (match x with | some (_, v) => .ok v w' | none => .ok (.agg C.toArray) w') := by
   unfold Instr.lookup
   simp only [Sem.run_bind, run_underlying ht, Result.andThen_ok, hget, Sem.run_pure, run_checkKey_ky hkt, run_findKey_ky hkt]
   cases hx : (Instr.findAsking kt (kyA ky) es.toList).run P w with
   | halt x w' => rfl
   | ok x w' =>
    simp only [Result.andThen_ok]
    cases x with
    | none => simp [run_aggZ hz]
    | some x => rfl
  rw [hrun]
  rcases run_find_ky hkt ky w es.toList l 0 (by simpa using hn) (ents_key hr) with ⟨h1, h2, -⟩ | ⟨j, en, x, h1, h2, h3, h4, -⟩
  ·
   rw [h1]
   rw [h2] at h
   refine hk _ _ _ _ _ _ r (Stp.refl _ _ _ _) (fun _ => Ext.refl _ _) (RepPs.toV (all_mem hone) ⟨by simp, fun i c p h1 h2 => ?_⟩) h
   simp only [Option.getD_none, List.getElem?_map] at h2
   rw [h1] at h2
   cases h2
   exact .lit (all_mem hone _ (List.mem_of_getElem? h1))
  ·
   rw [h1]
   rw [h4] at h
   obtain ⟨-, -, Cx, hval, hox, hx⟩ := hr j en (ky, x) (by simpa using h2) h3
   show k true en.val w
   rw [hval]
   exact hk _ _ _ _ _ _ r (Stp.refl _ _ _ _) (fun _ => Ext.refl _ _) (hx.toV hox) h
 ·
  exact h.elim
theorem ext_set {b : Nat} {o o' : Obj} (hB : w.heap[b]? = some o) : Ext [b] w { w with heap := w.heap.setIfInBounds b o' } ∧ ({ w with heap := w.heap.setIfInBounds b o' } : World).heap[b]? = some o' := by
 have hlt := heap_lt hB
 refine ⟨⟨rfl, rfl, rfl, Nat.le_refl _, by simp, fun c hc hn => ?_⟩, by simp [hlt]⟩
 simp only [List.mem_singleton] at hn
 show (w.heap.setIfInBounds b o')[c]? = _
 rw [Array.getElem?_setIfInBounds]
 rw [if_neg (fun e => hn e.symm)]
theorem mono_upd {w' : World} {o b n : Nat} {ob : Ob} (r : Rel μ Im σ w) (hσ : σ[o]? = some (some ob)) (hμ : μ[o]? = some (some (b, n))) (hx : Ext [b] w w') : Mono μ Im w μ Im w' :=
 ⟨List.prefix_refl _, fun _ h => h, fun c hc => hx.block c (r.im c hc).1 (by
  simp only [List.mem_singleton]
  intro e
  subst e
  exact (r.im c hc).2 (mem_live.2 ⟨o, n, ob, hμ, hσ⟩))⟩
theorem agK_sound {u : V} {a : Value} {F : List V → Prop} (hu : RepV w Im μ u a) (h : agK u F) : ∃ l C, a = .agg C.toArray ∧ (∀ c ∈ C, oneC c = true) ∧ RepL w Im μ l C ∧ F l := by
 unfold agK at h
 split at h
 ·
  cases hu with
  | agg hn ho hr => exact ⟨_, _, rfl, ho, ⟨hn, hr⟩, h⟩
 ·
  exact h.elim
theorem mupV_sound {t : TypeId} {u kk x : V} {a b c : Value} {K : KV} (r : Rel μ Im σ w) (hu : RepV w Im μ u a) (hk' : RepV w Im μ kk b) (hx : RepV w Im μ x c) (h : mupV P t u kk x σ fun τ σ' => K τ (.tup []) σ') : Runs false μ Im σ w K fun k => runK P (Instr.mapUpdate t a b c) w fun _ w' => k true undef w' := by
 intro k hk
 unfold mupV at h
 split at h
 ·
  rename_i C hC
  obtain ⟨kt, et, ht, hkt, hz⟩ := mpOf_spec hC
  obtain ⟨o, l, bb, es, rfl, hob, hμ, hB, hn, hr, h, -⟩ := obM_sound r hu h
  obtain ⟨ky, rfl, h⟩ := kyK_sound hk' h
  obtain ⟨lx, Cx, rfl, hox, hlx, h⟩ := agK_sound hx h
  obtain ⟨ps, hpl, hps, h⟩ := pvsK_sound hlx h
  have hget : (getObj bb).run P w = .ok (.map es es.size) w := by simp [getObj, Sem.run, hB]
  have hset : ∀ o', (setObj bb o').run P w = .ok () { w with heap := w.heap.setIfInBounds bb o' } := fun o' => by simp [setObj, Sem.run, hB]
  have hstay : (Instr.keyThatStays (kyA ky) (kyA ky)).run P w = .ok (kyA ky) w := by
   have : Instr.sameBits 10000 (kyA ky) (kyA ky) = true := by
    unfold kyA
    rw [show (10000 : Nat) = 9999 + 1 from rfl, Instr.sameBits]
    simp [Instr.sameBits]
   simp [Instr.keyThatStays, this]
  unfold runK
  rcases run_find_ky hkt ky w es.toList l 0 (by simpa using hn) (ents_key hr) with ⟨h1, h2, h3⟩ | ⟨j, en, x, h1, h2, h3, h4, h5⟩
  ·
   have hrun : (Instr.mapUpdate t (.map (some bb)) (kyA ky) (.agg Cx.toArray)).run P w = .ok () { w with heap := w.heap.setIfInBounds bb (.map (es.push { key := kyA ky, val := .agg Cx.toArray, born := es.size }) (es.size + 1)) } := by
    unfold Instr.mapUpdate
    simp only [Sem.run_bind, run_underlying ht, Result.andThen_ok, hget, run_checkKey_ky hkt, run_findKey_ky hkt, h1, hset]
   rw [hrun]
   rw [h3] at h
   obtain ⟨q1, q2⟩ := ext_set (o' := .map (es.push { key := kyA ky, val := .agg Cx.toArray, born := es.size }) (es.size + 1)) hB
   have mn := mono_upd r hob hμ q1
   obtain ⟨r', s'⟩ := r.upd (ob' := .map (l ++ [(ky, ps)])) hob hμ q1 ⟨bb, _, rfl, by rw [q2, Array.size_push], by simp [hn], fun i e y hi hy => by
    rw [Array.getElem?_push] at hi
    by_cases hi2 : i = es.size
    ·
     rw [if_pos hi2] at hi
     cases hi
     rw [List.getElem?_append_right (by omega)] at hy
     have : i - l.length = 0 := by omega
     rw [this] at hy
     cases hy
     exact ⟨hi2.symm, rfl, Cx, rfl, hox, ⟨by rw [hlx.1, hpl], fun i c p h1 h2 => (hps i c p h1 h2).mono mn⟩⟩
    ·
     rw [if_neg hi2] at hi
     have := (Array.getElem?_eq_some_iff.1 hi).1
     rw [List.getElem?_append_left (by omega)] at hy
     exact (hr i e y hi hy).mono mn⟩
   exact hk _ _ _ _ _ _ r' s' (fun h => by cases h) (.tup (C := []) rfl (fun i u c h => by simp at h)) h
  ·
   obtain ⟨e1, e2, Cv, hval, hov, hxv⟩ := hr j en (ky, x) (by simpa using h2) h3
   have hj : es[j]? = some en := by simpa using h2
   have hrun : (Instr.mapUpdate t (.map (some bb)) (kyA ky) (.agg Cx.toArray)).run P w = .ok () { w with heap := w.heap.setIfInBounds bb (.map (es.modify j fun e => { e with key := kyA ky, val := .agg Cx.toArray }) es.size) } := by
    unfold Instr.mapUpdate
    simp only [Sem.run_bind, run_underlying ht, Result.andThen_ok, hget, run_checkKey_ky hkt, run_findKey_ky hkt, h1, Nat.zero_add, hj, Option.map_some, Option.getD_some, e2, hstay, hset]
   rw [hrun]
   rw [h5] at h
   obtain ⟨q1, q2⟩ := ext_set (o' := .map (es.modify j fun e => { e with key := kyA ky, val := .agg Cx.toArray }) es.size) hB
   have mn := mono_upd r hob hμ q1
   obtain ⟨r', s'⟩ := r.upd (ob' := .map (l.set j (ky, ps))) hob hμ q1 ⟨bb, _, rfl, by rw [q2, Array.size_modify], by simp [hn], fun i e y hi hy => by
    rw [Array.getElem?_modify] at hi
    by_cases hij : j = i
    ·
     subst hij
     rw [if_pos rfl, hj] at hi
     cases hi
     rw [List.getElem?_set_self (get_lt h3)] at hy
     cases hy
     exact ⟨e1, rfl, Cx, rfl, hox, ⟨by rw [hlx.1, hpl], fun i c p h1 h2 => (hps i c p h1 h2).mono mn⟩⟩
    ·
     rw [if_neg hij] at hi
     rw [List.getElem?_set_ne hij] at hy
     exact (hr i e y hi hy).mono mn⟩
   exact hk _ _ _ _ _ _ r' s' (fun h => by cases h) (.tup (C := []) rfl (fun i u c h => by simp at h)) h
 ·
  exact h.elim
theorem newM_sound {ob : Ob} {o : Obj} {K : Nat → St → Prop} (r : Rel μ Im σ w) (ho : RepO (w.alloc o) Im (μ ++ [some (w.heap.size, 0)]) (some (w.heap.size, 0)) ob) (h : newO σ ob K) :
  ∃ σ' μ', Rel μ' Im σ' (w.alloc o) ∧ Stp μ Im σ w μ' Im σ' (w.alloc o) ∧ μ'[σ.length]? = some (some (w.heap.size, 0)) ∧ K σ.length σ' := by
 obtain ⟨h1, h2⟩ := r.add (w' := w.alloc o) ((Ext.refl [] w).alloc _) (fun b n e => by cases e; exact Nat.le_refl _) ho
 exact ⟨_, _, h1, h2, by rw [get_snoc, if_neg (by rw [r.len]; omega), if_pos r.len.symm], h⟩
theorem mkmV_sound {e : Bool} {t : TypeId} {K : KV} (r : Rel μ Im σ w) (h : mkmV P t σ K) : Runs e μ Im σ w K fun k => runK P (Instr.makeMap t none) w (k true) := by
 intro k hk
 unfold mkmV at h
 split at h
 ·
  obtain ⟨σ', μ', e1, e2, e3, e4⟩ := newM_sound (ob := .map []) (o := .map #[] 0) r ⟨_, #[], rfl, heap_alloc_new _ _, rfl, fun i e x h => by simp at h⟩ h
  have hrun : (Instr.makeMap t none).run P w = .ok (.map (some w.heap.size)) (w.alloc (.map #[] 0)) := by
   simp [Instr.makeMap, newObj, Sem.run]
  unfold runK
  rw [hrun]
  exact hk _ _ _ _ _ _ e1 e2 (fun _ => (Ext.refl [] w).alloc _) (.mref e3) e4
 ·
  exact h.elim
theorem rngV_sound {e : Bool} {t : TypeId} {u : V} {a : Value} {K : KV} (r : Rel μ Im σ w) (hu : RepV w Im μ u a) (h : rngV P t u σ K) : Runs e μ Im σ w K fun k => runK P (Instr.range t a) w (k true) := by
 intro k hk
 unfold rngV at h
 split at h
 ·
  rename_i C hC
  obtain ⟨kt, et, ht, hkt, hz⟩ := mpOf_spec hC
  obtain ⟨o, l, bb, es, rfl, hob, hμ, hB, hn, hr, h, -⟩ := obM_sound r hu h
  obtain ⟨σ', μ', e1, e2, e3, e4⟩ := newM_sound (ob := .iter o l.length []) (o := .mapIter (some bb) l.length #[] l.length) r ⟨_, bb, 0, rfl, pre_get (List.prefix_append _ _) hμ, heap_alloc_new _ _⟩ h
  unfold runK
  rw [run_range_map w t kt et bb es es.size ht hB, hn]
  have e5 := RepV.ref (w := w.alloc (.mapIter (some bb) l.length #[] l.length)) (Im := Im) (z := 0) (i := 0) (off := 0) e3
  simp only [Nat.zero_mul, Nat.zero_add] at e5
  exact hk _ _ _ _ _ _ e1 e2 (fun _ => (Ext.refl [] w).alloc _) e5 e4
 ·
  exact h.elim
theorem iter_sound {i : Nat} {a : Value} {ob : Ob} {F : Nat → Nat → List Nat → Prop} (r : Rel μ Im σ w) (hu : RepV w Im μ (.ref i 0 0 0) a) (hob : σ[i]? = some (some ob)) (h : itO ob F) :
  ∃ o n seen b m k, a = .pointer (some ⟨b, 0, none⟩) ∧ ob = .iter o n seen ∧ μ[i]? = some (some (b, 0)) ∧ μ[o]? = some (some (m, k)) ∧ w.heap[b]? = some (.mapIter (some m) n seen.toArray n) ∧ F o n seen := by
 unfold itO at h
 split at h
 ·
  rename_i o n seen
  obtain ⟨loc, hl, b, m, k, rfl, hm, hB⟩ := r.rep _ _ hob
  cases hu with
  | ref hμ =>
   rw [hl] at hμ
   cases hμ
   exact ⟨o, n, seen, b, m, k, by simp, rfl, hl, hm, hB, h⟩
 ·
  exact h.elim
theorem nxtV_sound {u : V} {a : Value} {ty : TypeId} {K : KV} (r : Rel μ Im σ w) (hu : RepV w Im μ u a) (h : nxtV u σ K) : Runs false μ Im σ w K fun k => runK P (Instr.next a false ty) w (k true) := by
 intro kk hk
 unfold nxtV at h
 split at h
 ·
  rename_i i
  obtain ⟨ob, hob, h⟩ := obV_sound h
  obtain ⟨o, n, seen, b, m, k, rfl, rfl, hμ, hm, hB, h⟩ := iter_sound r hu hob h
  obtain ⟨o', l, b', es, e1, hob', hμ', hB', hn, hr, ⟨hnl, hall, hnx⟩, e2⟩ := obM_sound r (RepV.mref hm) h
  cases e2
  cases e1
  have hget : (getObj b).run P w = .ok (.mapIter (some m) n seen.toArray n) w := by simp [getObj, Sem.run, hB]
  have hget2 : (getObj m).run P w = .ok (.map es es.size) w := by simp [getObj, Sem.run, hB']
  have hborn : ∀ (j : Nat) e, es[j]? = some e → e.born = j := fun j e he => by
   have hj : j < l.length := by have := (Array.getElem?_eq_some_iff.1 he).1; omega
   exact (hr j e _ he (List.getElem?_eq_getElem hj)).1
  have hold : ∀ x ∈ es.toList, x.born < n := fun x hx => by
   obtain ⟨j, hj, rfl⟩ := List.mem_iff_getElem.1 hx
   rw [hborn j _ (by simp [Array.getElem?_eq_getElem (show j < es.size by simpa using hj)])]
   simp at hj
   omega
  have htest := next_test_false seen.toArray es n n hold (Nat.le_refl _)
  unfold runK
  simp only [Instr.next, Sem.run_bind, hget, Result.andThen_ok, hget2, htest, Bool.false_eq_true, if_false]
  have hmemL : ∀ e, e ∈ Array.filter (fun e => !seen.toArray.contains e.born) es ↔ e ∈ es ∧ e.born ∉ seen := fun e => by simp
  generalize hLL : Array.filter (fun e => !seen.toArray.contains e.born) es = L at *
  have hmem : ∀ x ∈ L.toList, x.born < n := fun x hx => hold x (by simpa using ((hmemL x).1 (by simpa using hx)).1)
  have e1 : L.filter (fun x => decide (x.born < n)) = L := Array.filter_eq_self.2 (fun x hx => by simpa using hmem x (by simpa using hx))
  have e2 : L.filter (fun x => decide (x.born ≥ n)) = #[] := by
   rw [Array.filter_eq_empty_iff]
   intro x hx
   have := hmem x (by simpa using hx)
   simp
   omega
  simp only [e1, e2, Array.append_empty]
  by_cases h0 : L.size = 0
  ·
   have hL0 : L = #[] := Array.eq_empty_of_size_eq_zero h0
   subst hL0
   have hA : allSeen n seen := fun j hj => by
    have hje : j < es.size := by omega
    by_cases hs : j ∈ seen
    ·
     exact hs
    ·
     have := (hmemL es[j]).2 ⟨Array.getElem_mem hje, by rw [hborn j _ (Array.getElem?_eq_getElem hje)]; exact hs⟩
     simp at this
   have := hk _ _ _ _ _ _ r (Stp.refl _ _ _ _) (fun h => by cases h) (RepV.tup (w := w) (Im := Im) (μ := μ) (l := [.lit (.bool false)]) (C := [.bool false]) rfl fun i u c h1 h2 => by
    match i, h1, h2 with
    | 0, h1, h2 => cases h1; cases h2; exact .lit rfl) (hall hA)
   simpa [choose, Sem.run, Question.forced, resK] using this
  ·
   have hne : L.isEmpty = false := by simp [Array.isEmpty, h0]
   simp only [hne, Bool.false_eq_true, if_false, Array.empty_append, Array.size_map]
   have hch : ∃ (j : Nat) (w1 : World), j < L.size ∧ Ext [] w w1 ∧ w1.heap = w.heap ∧ (choose (Question.mapNext L.size)).run P w = .ok j w1 := by
    by_cases hf : L.size ≤ 1
    ·
     exact ⟨0, w, by omega, Ext.refl _ _, rfl, by simp [choose, Sem.run, Question.forced, hf]⟩
    ·
     exact ⟨_, w.drew, Nat.mod_lt _ (by omega), (Ext.refl _ _).drew, rfl, by
      simp only [choose, Sem.run, Question.forced, decide_eq_true_eq, hf, if_false, Question.cut]
      rfl⟩
   obtain ⟨j, w1, hj, hx1, hhp, hrun⟩ := hch
   have hmj := (hmemL L[j]).1 (Array.getElem_mem hj)
   obtain ⟨q, hq, hqe⟩ := Array.mem_iff_getElem.1 hmj.1
   have hq' : es[q]? = some L[j] := by rw [Array.getElem?_eq_getElem hq, hqe]
   have hbq := hborn q _ hq'
   have hql : q < l.length := by omega
   have hlq : l[q]? = some l[q] := List.getElem?_eq_getElem hql
   have hns : q ∉ seen := by rw [← hbq]; exact hmj.2
   obtain ⟨-, hkey, C, hval, hone, hps⟩ := hr q _ _ hq' hlq
   have hB1 : w1.heap[b]? = some (.mapIter (some m) n seen.toArray n) := by rw [hhp]; exact hB
   have hset : ∀ o', (setObj b o').run P w1 = .ok () { w1 with heap := w1.heap.setIfInBounds b o' } := fun o' => by simp [setObj, Sem.run, hB1]
   simp only [hrun, Result.andThen_ok, Array.getElem?_map, Array.getElem?_eq_getElem hj, Option.map_some, Sem.run_bind, hset]
   obtain ⟨q1, q2⟩ := ext_set (o' := .mapIter (some m) n (seen.toArray.push L[j].born) es.size) hB1
   have q3 : Ext [b] w { w1 with heap := w1.heap.setIfInBounds b (.mapIter (some m) n (seen.toArray.push L[j].born) es.size) } := (hx1.mono (by simp)).trans q1 (fun x hx => .inl hx)
   have mn := mono_upd r hob hμ q3
   obtain ⟨r', s'⟩ := r.upd (ob' := .iter o n (seen ++ [q])) hob hμ q3 ⟨b, m, _, rfl, hm, by rw [q2, hbq, show es.size = n by omega]; simp⟩
   have := hnx q l[q].1 l[q].2 hlq hns
   refine hk _ _ _ _ _ _ r' s' (fun h => by cases h) (.tup (C := [.bool true, L[j].key, L[j].val]) rfl fun i u c h1 h2 => ?_) this
   match i, h1, h2 with
   | 0, h1, h2 => cases h1; cases h2; exact .lit rfl
   | 1, h1, h2 => cases h1; cases h2; rw [hkey]; exact kyV_rep
   | 2, h1, h2 => cases h1; cases h2; rw [hval]; exact (hps.mono mn).toV hone
 ·
  exact h.elim
theorem entV_sound {e : Bool} {u : V} {a : Value} {K : KV} (r : Rel μ Im σ w) (hu : RepV w Im μ u a) (h : entV u σ K) : Runs e μ Im σ w K fun k => runK P (Instr.entry a) w (k true) := by
 intro kk hk
 unfold entV at h
 split at h
 ·
  rename_i i
  obtain ⟨ob, hob, h⟩ := obV_sound h
  obtain ⟨o, n, seen, b, m, k, rfl, rfl, hμ, hm, hB, h⟩ := iter_sound r hu hob h
  obtain ⟨o', l, b', es, e1, hob', hμ', hB', hn, hr, ⟨hnl, h⟩, e2⟩ := obM_sound r (RepV.mref hm) h
  cases e2
  cases e1
  split at h
  ·
   rename_i j hlast
   obtain ⟨x, hx, h⟩ := atK_sound h
   have hget : (getObj b).run P w = .ok (.mapIter (some m) n seen.toArray n) w := by simp [getObj, Sem.run, hB]
   have hget2 : (getObj m).run P w = .ok (.map es es.size) w := by simp [getObj, Sem.run, hB']
   have hjl := get_lt hx
   have hje : j < es.size := by omega
   have he : es[j]? = some es[j] := Array.getElem?_eq_getElem hje
   obtain ⟨hb, hkey, C, hval, hone, hps⟩ := hr j _ _ he hx
   have hnd : (es.toList.map (·.born)).Nodup := by
    have : es.toList.map (·.born) = List.range es.size := by
     apply List.ext_getElem?
     intro q
     by_cases hq : q < es.size
     ·
      have hql : q < l.length := by omega
      rw [List.getElem?_map, List.getElem?_range hq]
      simp only [Array.getElem?_toList, Array.getElem?_eq_getElem hq, Option.map_some]
      rw [(hr q _ _ (Array.getElem?_eq_getElem hq) (List.getElem?_eq_getElem hql)).1]
     ·
      rw [List.getElem?_eq_none (by simp; omega), List.getElem?_eq_none (by simp; omega)]
    rw [this]
    exact List.nodup_range
   have hf : es.find? (fun e => e.born == j) = some es[j] := by
    have := find_born es[j] es.toList hnd (by simp)
    rw [hb] at this
    rw [← Array.find?_toList]
    exact this
   unfold runK
   have hbk : seen.toArray.back? = some j := by simp [hlast]
   simp only [Instr.entry, Sem.run_bind, hget, Result.andThen_ok, hbk, hget2]
   have hne : (es.size != n) = false := by simp; omega
   simp only [hne, Bool.false_eq_true, if_false, hf]
   refine hk _ _ _ _ _ _ r (Stp.refl _ _ _ _) (fun _ => Ext.refl _ _) (.tup (C := [es[j].key, es[j].val]) rfl fun i u c h1 h2 => ?_) h
   match i, h1, h2 with
   | 0, h1, h2 => cases h1; cases h2; rw [hkey]; exact kyV_rep
   | 1, h1, h2 => cases h1; cases h2; rw [hval]; exact hps.toV hone
  ·
   exact h.elim
 ·
  exact h.elim
set_option maxHeartbeats 2000000 in
theorem opV_sound {τ e : Bool} {o : Oper} {K : KV} (r : Rel μ Im σ w) (hg : RepG w Im μ ρ ρc) (h : opV τ e P o ρ σ K) : Runs e μ Im σ w K fun k => opK true P o ρc w k := by
 obtain ⟨d, op, ty, pos, af, g⟩ := o
 have plain : valV τ P ⟨d, op, ty, pos, af, g⟩ ρ (fun τ u => K τ u σ) → Runs e μ Im σ w K fun k => opK true P ⟨d, op, ty, pos, af, g⟩ ρc w k := fun h => (valV_sound hg h).runs r
 unfold opV at h
 cases op with
 | alloc t => exact alcV_sound r h
 | box t x =>
  intro k hk
  obtain ⟨u, a, h1, h2, h3⟩ := evV_sound hg h
  show evK ρc x fun v => boxK P t v w k
  rw [h3]
  exact boxV_sound r h1 h2 k hk
 | build t ps =>
  intro k hk
  obtain ⟨js, us, vs, h0, h1, h2, h3⟩ := evpV_sound hg h
  show evpK ρc ps.toList fun vs => bldK P t vs w k
  rw [h3]
  exact (bldV_sound h0 h1 h2).runs r k hk
 | buildSlice t n ps =>
  intro k hk
  obtain ⟨js, us, vs, h0, h1, h2, h3⟩ := evpV_sound hg h
  show evpK ρc ps.toList fun vs => bslK P t n vs w k
  rw [h3]
  exact bslV_sound r h0 h1 h2 k hk
 | load t x =>
  intro k hk
  obtain ⟨u, a, h1, h2, h3⟩ := evV_sound hg h
  show evK ρc x fun v => loadK P t v w k
  rw [h3]
  obtain ⟨u', v', h4, h5, h6⟩ := ldV_sound r h1 h2
  rw [h6]
  exact hk _ _ _ _ _ _ r (Stp.refl _ _ _ _) (fun _ => Ext.refl _ _) h4 h5
 | slice t x lo hi mx =>
  intro k hk
  obtain ⟨u, a, h1, h2, h3⟩ := evV_sound hg h
  obtain ⟨ul, al, l1, l2, l3⟩ := evoV_sound hg h2
  obtain ⟨uh, ah, i1, i2, i3⟩ := evoV_sound hg l2
  obtain ⟨um, am, m1, m2, m3⟩ := evoV_sound hg i2
  obtain ⟨u', v', h4, h5, h6⟩ := slcS_sound r h1 l1 i1 m1 m2
  have h7 : ∀ w' (k : Kv), slcK P t a al ah am w' k = k true v' w' := h6
  show evK ρc x fun v' => evoK ρc lo fun lo => evoK ρc hi fun hi => evoK ρc mx fun mx => slcK P t v' lo hi mx w k
  rw [h3, l3, i3, m3, h7]
  exact hk _ _ _ _ _ _ r (Stp.refl _ _ _ _) (fun _ => Ext.refl _ _) h4 h5
 | convert s t x =>
  intro k hk
  obtain ⟨u, a, h1, h2, h3⟩ := evV_sound hg h
  show evK ρc x fun v => cvtK P s t v w k
  rw [h3]
  exact sbyV_sound r h1 h2 k hk
 | store t x y =>
  intro k hk
  obtain ⟨u, a, h1, h2, h3⟩ := evV_sound hg h
  obtain ⟨u', a', h4, h5, h6⟩ := evV_sound hg h2
  cases e with
  | true =>
   show evK ρc x fun a => evK ρc y fun v => storeK P t a v w fun τ w' => k τ undef w'
   rw [h3, h6]
   obtain ⟨q1, q2⟩ := stE_sound r h1 h4 h5
   rw [q2]
   exact hk _ _ _ _ _ _ r (Stp.refl _ _ _ _) (fun _ => Ext.refl _ _) (.tup (C := []) rfl (fun i u c h => by simp at h)) q1
  | false =>
   show evK ρc x fun a => evK ρc y fun v => storeK P t a v w fun τ w' => k τ undef w'
   rw [h3, h6]
   obtain ⟨w', σ', q1, q2, q3, q4⟩ := stV_sound r h1 h4 h5
   rw [q4]
   exact hk _ _ _ _ _ _ q1 q2 (fun h => by cases h) (.tup (C := []) rfl (fun i u c h => by simp at h)) q3
 | lookup t x i c =>
  intro k hk
  cases c with
  | true => exact h.elim
  | false =>
   obtain ⟨u, a, h1, h2, h3⟩ := evV_sound hg h
   obtain ⟨u', a', h4, h5, h6⟩ := evV_sound hg h2
   show evK ρc x fun x => evK ρc i fun i => runK P (Instr.lookup t x i false) w (k true)
   rw [h3, h6]
   exact lupV_sound r h1 h4 h5 k hk
 | mapUpdate t m ky x =>
  intro k hk
  obtain ⟨u, a, h1, h2, h3⟩ := evV_sound hg h
  obtain ⟨u', a', h4, h5, h6⟩ := evV_sound hg h2
  obtain ⟨u'', a'', h7, h8, h9⟩ := evV_sound hg h5
  cases e with
  | true => exact h8.elim
  | false =>
   show evK ρc m fun m => evK ρc ky fun ky => evK ρc x fun x => runK P (Instr.mapUpdate t m ky x) w fun _ w' => k true undef w'
   rw [h3, h6, h9]
   exact mupV_sound r h1 h4 h7 h8 k hk
 | insert t m ky x =>
  intro k hk
  obtain ⟨u, a, h1, h2, h3⟩ := evV_sound hg h
  obtain ⟨u', a', h4, h5, h6⟩ := evV_sound hg h2
  obtain ⟨u'', a'', h7, h8, h9⟩ := evV_sound hg h5
  cases e with
  | true => exact h8.elim
  | false =>
   show evK ρc m fun m => evK ρc ky fun ky => evK ρc x fun x => runK P (Instr.mapUpdate t m ky x) w fun _ w' => k true undef w'
   rw [h3, h6, h9]
   exact mupV_sound r h1 h4 h7 h8 k hk
 | makeMap t rs =>
  intro k hk
  cases rs with
  | some _ => exact h.elim
  | none => exact mkmV_sound r h k hk
 | range t x =>
  intro k hk
  obtain ⟨u, a, h1, h2, h3⟩ := evV_sound hg h
  show evK ρc x fun x => runK P (Instr.range t x) w (k true)
  rw [h3]
  exact rngV_sound r h1 h2 k hk
 | next x s =>
  intro k hk
  cases s with
  | true => exact h.elim
  | false =>
   obtain ⟨u, a, h1, h2, h3⟩ := evV_sound hg h
   cases e with
   | true => exact h2.elim
   | false =>
    show evK ρc x fun x => runK P (Instr.next x false ty) w (k true)
    rw [h3]
    exact nxtV_sound r h1 h2 k hk
 | entry x =>
  intro k hk
  obtain ⟨u, a, h1, h2, h3⟩ := evV_sound hg h
  show evK ρc x fun x => runK P (Instr.entry x) w (k true)
  rw [h3]
  exact entV_sound r h1 h2 k hk
 | makeFunc fn first captured =>
  intro k hk
  dsimp only at h
  split at h
  ·
   rename_i f hf
   obtain ⟨us, vs, h1, h2, h3⟩ := evsV_sound hg h
   show evsK ρc first.toList fun f' => evsK ρc captured.toList fun c => k true (.func (.func f) f'.toArray c.toArray) w
   rw [hf]
   show evsK ρc captured.toList fun c => k true (.func (.func f) #[] c.toArray) w
   rw [h3]
   exact hk _ _ _ _ _ _ r (Stp.refl _ _ _ _) (fun _ => Ext.refl _ _) (.clo h1.1 h1.2) h2
  ·
   exact h.elim
 | makeSlice t l c =>
  intro k hk
  obtain ⟨u, a, h1, h2, h3⟩ := evV_sound hg h
  obtain ⟨u', a', h4, h5, h6⟩ := evV_sound hg h2
  show evK ρc l fun l => evK ρc c fun c => msl P t l c w k
  rw [h3, h6]
  exact mslV_sound r h1 h4 h5 k hk
 | call c =>
  obtain ⟨callee, args, ats⟩ := c
  intro k hk
  dsimp only at h
  cases callee with
  | value f =>
   obtain ⟨u, a, h1, h2, h3⟩ := evV_sound hg h
   obtain ⟨us, vs, h4, h5, h6⟩ := evsV_sound hg h2
   show evK ρc f fun f => evsK ρc args.toList fun args => match f with | .func (.func g) first captured => callK P g (first ++ args.toArray ++ captured) w k | _ => False
   rw [h3, h6]
   unfold calV at h5
   split at h5
   ·
    cases h1 with
    | @clo f l C hn hr =>
     have e : (#[] ++ vs.toArray ++ C.toArray : Array Value) = (vs ++ C).toArray := by simp
     show callK P _ (#[] ++ vs.toArray ++ C.toArray) w k
     rw [e]
     exact callV_sound r (h4.append ⟨hn, hr⟩) h5 k hk
   ·
    exact h5.elim
  | builtin b =>
   obtain ⟨us, vs, h4, h5, h6⟩ := evsV_sound hg h
   have hargs : args = args.toList.toArray := by simp
   have hats : ats = ats.toList.toArray := by simp
   rw [hargs, opK_builtin, h6]
   generalize args.toList = al at *
   generalize ats.toList = tl at *
   subst hats
   exact bltV_sound r h4 h5 k hk
  | invoke rc name =>
   obtain ⟨u, a, h1, h2, h3⟩ := evV_sound hg h
   obtain ⟨us, vs, h4, h5, h6⟩ := evsV_sound hg h2
   show evK ρc rc fun r => evsK ρc args.toList fun args => nextK P (callMethod r name args.toArray) w k
   rw [h3, h6]
   exact invV_sound r h1 h4 h5 k hk
 | _ => dsimp only at h; exact plain h
end
end Go.Vx

namespace Go.Vx
open Go.Eng
set_option linter.unusedSimpArgs false
set_option linter.unusedVariables false

abbrev Pi := List (Option Nat)
def mRow (ob : Ob) (z off len : Nat) (l : List (List PV)) : Prop := match ob with
 | .row z'' l' => z = z'' ∧ off + len ≤ l'.length ∧ l = (l'.drop off).take len
 | _ => False
def tP0 (ok : Nat → Bool) (σ : St) : V → PV → Prop
 | .lit v, .lit v' => v' = v
 | .lit v, .row _ l => v = .slice none 0 0 ∧ l = []
 | .row z l, .row z' l' => z' = z ∧ l' = l
 | .xrow z l, .row z' l' => z' = z ∧ l' = l
 | .sl o z off len, .row z' l => z' = z ∧ ok o = true ∧ obV σ o fun ob => mRow ob z off len l
 | .rref z l i off, .ptr z' l' i' off' => z' = z ∧ l' = l ∧ i' = i ∧ off' = off
 | _, _ => False
def tPs (f : V → PV → Prop) : List V → List PV → Prop
 | [], [] => True
 | u :: us, p :: ps => f u p ∧ tPs f us ps
 | _, _ => False
def tO (f : V → PV → Prop) (z : Nat) (l : List (List PV)) (i off z' i' off' : Nat) : Ob → Prop
 | .cells us => (match l with | [ps] => z = ps.length ∧ i = 0 ∧ off = adr z' i' off' ∧ tPs f us ps | _ => False)
 | .row z'' L => z = z' ∧ z'' = z' ∧ l = L ∧ i = i' ∧ off = off'
 | _ => False
def tRs (f : V → PV → Prop) (z : Nat) : List V → List (List PV) → Prop
 | _, [] => True
 | us, e :: l => z ≤ us.length ∧ tPs f (us.take z) e ∧ tRs f z (us.drop z) l
def tR (f : V → PV → Prop) (z off len : Nat) (l : List (List PV)) : Ob → Prop
 | .cells us => off = 0 ∧ l.length = len ∧ tRs f z us l
 | .row z'' L => mRow (.row z'' L) z off len l
 | _ => False
def tPn (ok : Nat → Bool) (σ : St) : Nat → V → PV → Prop
 | 0, u, p => tP0 ok σ u p
 | n + 1, u, p => (match u, p with
  | .ref o z' i' off', .ptr z l i off => ok o = true ∧ obV σ o fun ob => tO (tPn ok σ n) z l i off z' i' off' ob
  | .sl o z off len, .row z' l => z' = z ∧ ok o = true ∧ obV σ o fun ob => tR (tPn ok σ n) z off len l ob
  | u, p => tP0 ok σ u p)
mutual
def mV (ok : Nat → Bool) (π : Pi) (σ : St) : V → V → Prop
 | .lit v, u => u = .lit v
 | .row z l, u => (match u with
  | .row z' l' => z = z' ∧ l = l'
  | .xrow z' l' => z = z' ∧ l = l'
  | .lit (.slice none 0 0) => l = []
  | .sl o z' off len => z = z' ∧ ok o = true ∧ obV σ o fun ob => tR (tPn ok σ 4) z off len l ob
  | _ => False)
 | .xrow z l, u => (match u with | .xrow z' l' => z = z' ∧ l = l' | _ => False)
 | .ref o z i off, u => (match u with | .ref o' z' i' off' => π[o]? = some (some o') ∧ z = z' ∧ i = i' ∧ off = off' | _ => False)
 | .sl o z off len, u => (match u with
  | .sl o' z' off' len' => π[o]? = some (some o') ∧ z = z' ∧ off = off' ∧ len = len'
  | .lit (.slice none 0 0) => π[o]? = some none ∧ off = 0 ∧ len = 0
  | _ => False)
 | .rref z l i off, u => (match u with
  | .rref z' l' i' off' => z = z' ∧ l = l' ∧ i = i' ∧ off = off'
  | .ref o z' i' off' => ok o = true ∧ obV σ o fun ob => tO (tPn ok σ 4) z l i off z' i' off' ob
  | _ => False)
 | .agg l, u => (match u with | .agg m => mVs ok π σ l m | _ => False)
 | .tup l, u => (match u with | .tup m => mVs ok π σ l m | _ => False)
 | .clo f l, u => (match u with | .clo g m => f = g ∧ mVs ok π σ l m | _ => False)
 | .mref o, u => (match u with | .mref o' => π[o]? = some (some o') | _ => False)
def mVs (ok : Nat → Bool) (π : Pi) (σ : St) : List V → List V → Prop
 | [], [] => True
 | u :: us, v :: vs => mV ok π σ u v ∧ mVs ok π σ us vs
 | _, _ => False
end
def rowC : List (List PV) → Option (List V)
 | [] => some []
 | [.lit v] :: r => (rowC r).map (V.lit v :: ·)
 | _ :: _ => none
def mO (ok : Nat → Bool) (π : Pi) (σ : St) : Ob → Ob → Prop
 | .cells l, .cells m => mVs ok π σ l m
 | .row z l, .row z' m => z = z' ∧ l = m
 | .row z l, .cells m => z = 1 ∧ rowC l = some m
 | .cells m, .row _ l => l ≠ [] ∧ m = l.flatten.map V.ofP
 | .map l, .map m => l = m
 | .iter o n s, .iter o' n' s' => π[o]? = some (some o') ∧ n = n' ∧ s = s'
 | _, _ => False
def mSt (ok : Nat → Bool) (π : Pi) (σ : St) : St → Pi → Prop
 | [], [] => True
 | none :: s, _ :: ps => mSt ok π σ s ps
 | some ob :: s, some o :: ps => (obV σ o fun ob' => mO ok π σ ob ob') ∧ mSt ok π σ s ps
 | some (.row _ l) :: s, none :: ps => l = [] ∧ mSt ok π σ s ps
 | _, _ => False
def mG (ok : Nat → Bool) (π : Pi) (σ : St) : Vg → Vg → Prop
 | [], _ => True
 | (t, u) :: r, ρ => (lkV ρ t fun v => mV ok π σ u v) ∧ mG ok π σ r ρ
def ndp (π : Pi) : Bool := decide ((π.filterMap id).Nodup)
def lvp : Pi → St → List Nat
 | some o :: π, some _ :: s => o :: lvp π s
 | _ :: π, _ :: s => lvp π s
 | _, _ => []
def ndl (π : Pi) (s : St) : Bool := decide (lvp π s).Nodup
def kfix (k : Nat) (π : Pi) : Bool := (List.range k).all fun i => π[i]? == some (some i)
def okN (π : Pi) (o : Nat) : Bool := !π.contains (some o)
def Emb (k : Nat) (π : Pi) (ρ₀ : Vg) (σ₀ : St) (ρ : Vg) (σ : St) : Prop := (ndl π σ₀ && kfix k π) = true ∧ mSt (okN π) π σ σ₀ π ∧ mG (okN π) π σ ρ₀ ρ
def EmbR (k : Nat) (π : Pi) (u₀ : V) (σ₀ : St) (u : V) (σ : St) : Prop := (ndl π σ₀ && kfix k π) = true ∧ mSt (okN π) π σ σ₀ π ∧ mV (okN π) π σ u₀ u

section
variable {w : World} {Im Im' : Nat → Prop} {μ : Mu} {σ : St} {π : Pi} {ok : Nat → Bool}

def muOf (μ : Mu) (π : Pi) : Mu := π.map fun p => match p with | some o => (μ[o]?).getD none | none => none
theorem muOf_some {j o : Nat} (h : π[j]? = some (some o)) : (muOf μ π)[j]? = some ((μ[o]?).getD none) := by simp [muOf, h]
theorem muOf_none {j : Nat} (h : π[j]? = some none) : (muOf μ π)[j]? = some none := by simp [muOf, h]
structure Frz (μ : Mu) (Im : Nat → Prop) (σ : St) (ok : Nat → Bool) (Im' : Nat → Prop) : Prop where
 old : ∀ b, Im b → Im' b
 new : ∀ (o : Nat) b n ob, ok o = true → σ[o]? = some (some ob) → μ[o]? = some (some (b, n)) → Im' b

theorem RepP.im {p : PV} {v : Value} (h : RepP w Im p v) (hI : ∀ b, Im b → Im' b) : RepP w Im' p v :=
 h.mono (μ := []) (μ' := []) ⟨List.prefix_refl _, hI, fun _ _ => rfl⟩
theorem row_of_sl {o z off len cap : Nat} {a : Option Addr} {l : List (List PV)} (r : Rel μ Im σ w) (fz : Frz μ Im σ ok Im') (hok : ok o = true) (hob : σ[o]? = some (some (.row z l))) (hle : off + len ≤ l.length) (hs : SlOk μ[o]? z off len a cap) :
  RepP w Im' (.row z ((l.drop off).take len)) (.slice a len cap) := by
 have hrow : rowK (.sl o z off len) σ z (fun m => m = (l.drop off).take len) := by
  unfold rowK
  simp only [if_true]
  unfold obV atK rowO
  rw [hob]
  simp only [true_and]
  rw [if_pos hle]
  trivial
 obtain ⟨m, ad, cp, C, e, hR, hG⟩ := rowK_sound r (RepV.sl hs) hrow
 subst hG
 injection e with e1 e2 e3
 subst e1 e3
 refine .row (C := C) (by simp; omega) hs.1 hR.siz hR.row (fun hne => ?_) (by rw [hR.len, ← e2]) hR.one (fun i c p h1 h2 => (hR.rep i c p h1 h2).im fz.old)
 obtain ⟨loc, hloc, hz, hO⟩ := r.rep _ _ hob
 rw [hloc] at hs
 obtain ⟨hlc, hs⟩ := hs
 rcases hO with ⟨rfl, rfl⟩ | ⟨b, D, rfl, hB, hCl, hr⟩
 ·
  obtain ⟨_, rfl, _⟩ := hs
  exact absurd (List.length_eq_zero_iff.1 (by rw [hR.len]; simp)) hne
 ·
  have hlen : 0 < len := by
   rcases Nat.eq_zero_or_pos len with h | h
   ·
    subst h
    exact absurd (List.length_eq_zero_iff.1 (by rw [hR.len]; simp)) hne
   ·
    exact h
  rw [hs.1 (.inl hlen)]
  exact fz.new o b _ _ hok hob hloc

theorem tP0_sound (r : Rel μ Im σ w) (fz : Frz μ Im σ ok Im') {u : V} {p : PV} {c : Value} (h : tP0 ok σ u p) (hu : RepV w Im μ u c) : RepP w Im' p c := by
 cases u <;> cases p <;> simp only [tP0] at h
 ·
  subst h
  cases hu with | lit h => exact .lit h
 ·
  obtain ⟨rfl, rfl⟩ := h
  cases hu
  exact .row (C := []) rfl (Nat.le_refl _) (by simp) (Row.nil _ _) (fun h => absurd rfl h) (by simp) (by simp) (by simp)
 ·
  obtain ⟨rfl, rfl⟩ := h
  cases hu with | row h => exact h.im fz.old
 ·
  obtain ⟨rfl, rfl⟩ := h
  cases hu with | xrow h => exact h.im fz.old
 ·
  obtain ⟨rfl, hok, h⟩ := h
  obtain ⟨ob, hob, h⟩ := obV_sound h
  unfold mRow at h
  split at h
  ·
   obtain ⟨rfl, hle, rfl⟩ := h
   cases hu with | sl hs => exact row_of_sl r fz hok hob hle hs
  ·
   exact h.elim
 ·
  obtain ⟨rfl, rfl, rfl, rfl⟩ := h
  cases hu with | rref q1 q2 q3 q4 q5 q6 => exact .ptr q1 q2 (fun h => fz.old _ (q3 h)) q4 q5 (fun i c p h1 h2 => (q6 i c p h1 h2).im fz.old)
theorem tPs_sound {f : V → PV → Prop} (hf : ∀ (u : V) (p : PV) (c : Value), f u p → RepV w Im μ u c → RepP w Im' p c) : ∀ {us : List V} {ps : List PV} {C : List Value}, tPs f us ps → RepL w Im μ us C → ps.length = us.length ∧ ∀ (i : Nat) c p, C[i]? = some c → ps[i]? = some p → RepP w Im' p c
 | [], [], C, _, _ => ⟨rfl, fun i c p _ h => by simp at h⟩
 | u :: us, p :: ps, C, h, hr => by
  obtain ⟨v, vs, rfl, h1, h2⟩ := hr.uncons
  obtain ⟨e, ih⟩ := tPs_sound hf h.2 h2
  refine ⟨by simp [e], fun i c q hc hq => ?_⟩
  cases i with
  | zero => simp at hc hq; subst hc hq; exact hf _ _ _ h.1 h1
  | succ i => simp at hc hq; exact ih i c q hc hq
 | [], _ :: _, _, h, _ => by simp [tPs] at h
 | _ :: _, [], _, h, _ => by simp [tPs] at h
theorem tRs_sound {f : V → PV → Prop} {z : Nat} (hf : ∀ (u : V) (p : PV) (c : Value), f u p → RepV w Im μ u c → RepP w Im' p c) : ∀ {l : List (List PV)} {us : List V} {C : List Value}, tRs f z us l → RepL w Im μ us C → (∀ e ∈ l, e.length = z) ∧ l.length * z ≤ us.length ∧ ∀ (i : Nat) c p, C[i]? = some c → l.flatten[i]? = some p → RepP w Im' p c
 | [], us, C, _, _ => ⟨by simp, by simp, by simp⟩
 | e :: l, us, C, h, hr => by
  obtain ⟨h1, h2, h3⟩ := h
  have p1 := hr.part 0 z
  have p2 := hr.part z us.length
  rw [List.drop_zero, List.drop_zero] at p1
  rw [List.take_of_length_le (by simp), List.take_of_length_le (by simp [hr.1])] at p2
  obtain ⟨e1, q1⟩ := tPs_sound hf h2 p1
  obtain ⟨e2, e3, q2⟩ := tRs_sound hf h3 p2
  rw [List.length_take, Nat.min_eq_left h1] at e1
  rw [List.length_drop] at e3
  refine ⟨fun x hx => ?_, ?_, fun i c p hc hp => ?_⟩
  ·
   rcases List.mem_cons.1 hx with rfl | hx
   ·
    exact e1
   ·
    exact e2 x hx
  ·
   rw [List.length_cons, Nat.succ_mul]
   omega
  ·
   rw [List.flatten_cons] at hp
   by_cases hi : i < z
   ·
    rw [List.getElem?_append_left (by omega)] at hp
    exact q1 i c p (by rw [List.getElem?_take, if_pos hi]; exact hc) hp
   ·
    rw [List.getElem?_append_right (by omega), e1] at hp
    exact q2 (i - z) c p (by rw [List.getElem?_drop, ← hc]; congr 1; omega) hp
theorem tO_cells {z i off z' i' off' : Nat} {l : List (List PV)} {us : List V} {f : V → PV → Prop} (h : tO f z l i off z' i' off' (.cells us)) : ∃ ps, l = [ps] ∧ z = ps.length ∧ i = 0 ∧ off = adr z' i' off' ∧ tPs f us ps := by
 unfold tO at h
 simp only at h
 match l, h with
 | [ps], h => exact ⟨ps, rfl, h⟩
theorem tO_sound (r : Rel μ Im σ w) (fz : Frz μ Im σ ok Im') {f : V → PV → Prop} (hf : ∀ (u : V) (p : PV) (c : Value), f u p → RepV w Im μ u c → RepP w Im' p c) {o z i off z' i' off' : Nat} {l : List (List PV)} {v : Value} (hok : ok o = true) (h : obV σ o fun ob => tO f z l i off z' i' off' ob) (hu : RepV w Im μ (.ref o z' i' off') v) : RepP w Im' (.ptr z l i off) v := by
 obtain ⟨ob, hob, h⟩ := obV_sound h
 obtain ⟨loc, hloc, hO⟩ := r.rep _ _ hob
 cases hu with
 | @ref _ _ _ _ b n hm =>
  have hIm : Im' b := fz.new o b n ob hok hob hm
  rw [hloc] at hm
  cases hm
  cases ob with
  | cells us =>
   obtain ⟨ps, rfl, rfl, rfl, rfl, hps⟩ := tO_cells h
   obtain ⟨b', C, D, e, hB, ho, hl⟩ := hO
   cases e
   obtain ⟨el, hrep⟩ := tPs_sound hf hps hl
   have hR : Row w (some ⟨b, 0, none⟩) C := Row.of_blk hB (fun i hi => by rw [Nat.zero_add]; exact get_l (List.getElem?_eq_getElem hi))
   have := RepP.ptr (z := ps.length) (i := 0) (off := adr z' i' off') (l := [ps]) (Im := Im') (w := w) (fun e he => by simp at he; rw [he]) hR (fun _ => by rw [ab_some]; exact hIm) (by simp [hl.1, el]) ho (fun i c p h1 h2 => hrep i c p h1 (by simpa using h2))
   rw [ab_some, ao_some, Nat.zero_mul, Nat.zero_add] at this
   exact this
  | row z'' L =>
   unfold tO at h
   simp only at h
   obtain ⟨e1, e2, e3, e4, e5⟩ := h
   subst e3 e4 e5 e2 e1
   obtain ⟨hz, hO⟩ := hO
   rcases hO with ⟨e, _⟩ | ⟨b', C, e, hB, hle, hrep⟩
   ·
    cases e
   ·
    cases e
    have hR : Row w (some ⟨b, 0, none⟩) (C.take (l.length * z)) := Row.of_blk hB (fun i hi => by simp at hi ⊢)
    have hfl : l.flatten.length = l.length * z := by
     exact flat_len hz
    have hrep' : ∀ (i : Nat) c p, (C.take (l.length * z))[i]? = some c → l.flatten[i]? = some p → RepP w Im' p c := fun i c p h1 h2 => by
     have hi := get_lt h2
     rw [List.getElem?_take, if_pos (by omega)] at h1
     exact (hrep i c p h1 h2).im fz.old
    have := RepP.ptr (z := z) (i := i) (off := off) (l := l) (Im := Im') (w := w) hz hR (fun _ => by rw [ab_some]; exact hIm) (by simp; omega) (fun c hc => by
     obtain ⟨i, hi, rfl⟩ := List.mem_iff_getElem.1 hc
     have hi2 : i < l.flatten.length := by simp at hi; omega
     exact (hrep' i _ _ (List.getElem?_eq_getElem hi) (List.getElem?_eq_getElem hi2)).one) hrep'
    rw [ab_some, ao_some, Nat.zero_add] at this
    exact this
  | map l => exact h.elim
  | iter o n s => exact h.elim
theorem tR_sound (r : Rel μ Im σ w) (fz : Frz μ Im σ ok Im') {f : V → PV → Prop} (hf : ∀ (u : V) (p : PV) (c : Value), f u p → RepV w Im μ u c → RepP w Im' p c) {o z off len : Nat} {l : List (List PV)} {v : Value} (hok : ok o = true) (h : obV σ o fun ob => tR f z off len l ob) (hu : RepV w Im μ (.sl o z off len) v) : RepP w Im' (.row z l) v := by
 obtain ⟨ob, hob, h'⟩ := obV_sound h
 clear h
 cases hu with
 | @sl _ _ _ _ cap a hs =>
  cases ob with
  | row z'' L =>
   obtain ⟨rfl, hle, rfl⟩ := h'
   exact row_of_sl r fz hok hob hle hs
  | cells us =>
   obtain ⟨rfl, rfl, h'⟩ := h'
   obtain ⟨loc, hloc, hO⟩ := r.rep _ _ hob
   obtain ⟨b, C, D, rfl, hB, ho, hl⟩ := hO
   obtain ⟨e1, e2, hrep⟩ := tRs_sound hf h' hl
   have hIm : Im' b := fz.new o b _ _ hok hob hloc
   rw [hloc] at hs
   obtain ⟨hlc, ha, hn⟩ := hs
   have ha' := ha (.inr rfl)
   rw [Nat.zero_mul] at ha'
   subst ha'
   have hCl := hl.1
   refine .row (C := C.take (l.length * z)) rfl hlc e1 (Row.of_blk hB (fun i hi => ?_)) (fun _ => by rw [ab_some]; exact hIm) (by rw [List.length_take]; omega) (fun c hc => ho c (List.mem_of_mem_take hc)) (fun i c p h1 h2 => ?_)
   ·
    rw [Nat.zero_add]
    exact get_l (by rw [List.getElem_take]; exact List.getElem?_eq_getElem _)
   ·
    rw [List.getElem?_take] at h1
    split at h1
    ·
     exact hrep i c p h1 h2
    ·
     cases h1
  | map l => exact h'.elim
  | iter o n s => exact h'.elim
theorem tPn_sound (r : Rel μ Im σ w) (fz : Frz μ Im σ ok Im') : ∀ (n : Nat) (u : V) (p : PV) (c : Value), tPn ok σ n u p → RepV w Im μ u c → RepP w Im' p c
 | 0, u, p, c, h, hu => tP0_sound r fz h hu
 | n + 1, u, p, c, h, hu => by
  unfold tPn at h
  split at h
  ·
   exact tO_sound r fz (tPn_sound r fz n) h.1 h.2 hu
  ·
   obtain ⟨rfl, hok, h⟩ := h
   exact tR_sound r fz (tPn_sound r fz n) hok h hu
  ·
   exact tP0_sound r fz h hu
theorem RepP.toV {p : PV} {c : Value} (h : RepP w Im p c) : RepV w Im μ (V.ofP p) c := by
 cases h with
 | lit h => exact .lit h
 | row q1 q2 q3 q4 q5 q6 q7 q8 => exact .row (.row q1 q2 q3 q4 q5 q6 q7 q8)
 | ptr q1 q2 q3 q4 q5 q6 => exact .rref q1 q2 q3 q4 q5 q6

mutual
theorem mV_sound (r : Rel μ Im σ w) (fz : Frz μ Im σ ok Im') : ∀ {u₀ u : V} {v : Value}, mV ok π σ u₀ u → RepV w Im μ u v → RepV w Im' (muOf μ π) u₀ v
 | .lit x, u, v, h, hu => by
  unfold mV at h
  subst h
  cases hu with | lit h => exact .lit h
 | .row z l, u, v, h, hu => by
  unfold mV at h
  split at h
  ·
   obtain ⟨rfl, rfl⟩ := h
   cases hu with | row h => exact .row (h.im fz.old)
  ·
   obtain ⟨rfl, rfl⟩ := h
   cases hu with | xrow h => exact .row (h.im fz.old)
  ·
   subst h
   cases hu
   exact .row (.row (C := []) rfl (Nat.le_refl _) (by simp) (Row.nil _ _) (fun h => absurd rfl h) (by simp) (by simp) (by simp))
  ·
   obtain ⟨rfl, hok, h⟩ := h
   exact .row (tR_sound r fz (tPn_sound r fz 4) hok h hu)
  ·
   exact h.elim
 | .xrow z l, u, v, h, hu => by
  unfold mV at h
  split at h
  ·
   obtain ⟨rfl, rfl⟩ := h
   cases hu with | xrow h => exact .xrow (h.im fz.old)
  ·
   exact h.elim
 | .ref o z i off, u, v, h, hu => by
  unfold mV at h
  split at h
  ·
   obtain ⟨hp, rfl, rfl, rfl⟩ := h
   cases hu with | ref hm => exact .ref (by rw [muOf_some hp, hm]; rfl)
  ·
   exact h.elim
 | .sl o z off len, u, v, h, hu => by
  unfold mV at h
  split at h
  ·
   obtain ⟨hp, rfl, rfl, rfl⟩ := h
   cases hu with
   | sl hs =>
    obtain ⟨x, hx⟩ := hs.some
    refine .sl ?_
    rw [muOf_some hp, hx]
    rw [hx] at hs
    exact hs
  ·
   obtain ⟨hp, rfl, rfl⟩ := h
   cases hu
   exact .sl ⟨Nat.le_refl _, by rw [muOf_none hp]; exact ⟨rfl, rfl, rfl, rfl⟩⟩
  ·
   exact h.elim
 | .rref z l i off, u, v, h, hu => by
  unfold mV at h
  split at h
  ·
   obtain ⟨rfl, rfl, rfl, rfl⟩ := h
   cases hu with
   | rref q1 q2 q3 q4 q5 q6 => exact .rref q1 q2 (fun h => fz.old _ (q3 h)) q4 q5 (fun i c p h1 h2 => (q6 i c p h1 h2).im fz.old)
  ·
   exact (tO_sound r fz (tPn_sound r fz 4) h.1 h.2 hu).toV
  ·
   exact h.elim
 | .agg l, u, v, h, hu => by
  unfold mV at h
  split at h
  ·
   cases hu with
   | agg hn ho hr =>
    have := mVs_sound r fz h ⟨hn, hr⟩
    exact .agg this.1 ho this.2
  ·
   exact h.elim
 | .tup l, u, v, h, hu => by
  unfold mV at h
  split at h
  ·
   cases hu with
   | tup hn hr =>
    have := mVs_sound r fz h ⟨hn, hr⟩
    exact .tup this.1 this.2
  ·
   exact h.elim
 | .clo f l, u, v, h, hu => by
  unfold mV at h
  split at h
  ·
   obtain ⟨rfl, h⟩ := h
   cases hu with
   | clo hn hr =>
    have := mVs_sound r fz h ⟨hn, hr⟩
    exact .clo this.1 this.2
  ·
   exact h.elim
 | .mref o, u, v, h, hu => by
  unfold mV at h
  split at h
  ·
   cases hu with
   | mref hm => exact .mref (by rw [muOf_some h, hm]; rfl)
  ·
   exact h.elim
theorem mVs_sound (r : Rel μ Im σ w) (fz : Frz μ Im σ ok Im') : ∀ {us₀ us : List V} {vs : List Value}, mVs ok π σ us₀ us → RepL w Im μ us vs → RepL w Im' (muOf μ π) us₀ vs
 | [], [], vs, _, hr => ⟨hr.1, by simp⟩
 | u₀ :: us₀, u :: us, vs, h, hr => by
  unfold mVs at h
  obtain ⟨v, vs, rfl, h1, h2⟩ := hr.uncons
  exact .cons (mV_sound r fz h.1 h1) (mVs_sound r fz h.2 h2)
 | [], _ :: _, _, h, _ => by simp [mVs] at h
 | _ :: _, [], _, h, _ => by simp [mVs] at h
end
theorem mSt_spec : ∀ {s : St} {ps : Pi}, mSt ok π σ s ps → s.length = ps.length ∧ ∀ (j : Nat) ob, s[j]? = some (some ob) → (∃ o ob', ps[j]? = some (some o) ∧ σ[o]? = some (some ob') ∧ mO ok π σ ob ob') ∨ (ps[j]? = some none ∧ ∃ z, ob = .row z [])
 | [], [], _ => ⟨rfl, fun j ob h => by simp at h⟩
 | none :: s, p :: ps, h => by
  unfold mSt at h
  obtain ⟨h1, h2⟩ := mSt_spec h
  refine ⟨by simp [h1], fun j ob hj => ?_⟩
  cases j with
  | zero => simp at hj
  | succ j => simpa using h2 j ob (by simpa using hj)
 | some ob :: s, some o :: ps, h => by
  unfold mSt at h
  obtain ⟨h1, h2⟩ := mSt_spec h.2
  refine ⟨by simp [h1], fun j ob' hj => ?_⟩
  cases j with
  | zero =>
   simp at hj
   subst hj
   obtain ⟨ob'', h3, h4⟩ := obV_sound h.1
   exact .inl ⟨o, ob'', rfl, h3, h4⟩
  | succ j => simpa using h2 j ob' (by simpa using hj)
 | some (.row z l) :: s, none :: ps, h => by
  unfold mSt at h
  obtain ⟨h1, h2⟩ := mSt_spec h.2
  refine ⟨by simp [h1], fun j ob' hj => ?_⟩
  cases j with
  | zero =>
   simp at hj
   subst hj
   obtain ⟨rfl, _⟩ := h
   exact .inr ⟨rfl, z, rfl⟩
  | succ j => simpa using h2 j ob' (by simpa using hj)
 | some (.cells l) :: s, none :: ps, h => by simp [mSt] at h
 | [], _ :: _, h => by simp [mSt] at h
 | none :: _, [], h => by simp [mSt] at h
 | some _ :: _, [], h => by simp [mSt] at h
theorem rowC_spec : ∀ {l : List (List PV)} {m : List V}, rowC l = some m → ∃ vs : List Value, l = vs.map (fun v => [PV.lit v]) ∧ m = vs.map V.lit
 | [], m, h => ⟨[], rfl, by cases h; rfl⟩
 | [.lit v] :: r, m, h => by
  unfold rowC at h
  obtain ⟨m', h1, rfl⟩ := Option.map_eq_some_iff.1 h
  obtain ⟨vs, e1, e2⟩ := rowC_spec h1
  exact ⟨v :: vs, by rw [e1]; rfl, by rw [e2]; rfl⟩
 | [] :: r, m, h => by simp [rowC] at h
 | [.row _ _] :: r, m, h => by simp [rowC] at h
 | (_ :: _ :: _) :: r, m, h => by simp [rowC] at h
theorem flat_one : ∀ vs : List Value, (vs.map fun v => [PV.lit v]).flatten = vs.map PV.lit
 | [] => rfl
 | v :: vs => by rw [List.map_cons, List.flatten_cons, flat_one vs]; rfl
theorem mO_sound (r : Rel μ Im σ w) (fz : Frz μ Im σ ok Im') {loc : Option (Nat × Nat)} {ob₀ ob : Ob} (h : mO ok π σ ob₀ ob) (ho : RepO w Im μ loc ob) : RepO w Im' (muOf μ π) loc ob₀ := by
 unfold mO at h
 split at h
 ·
  obtain ⟨b, C, D, e, hB, hone, hL⟩ := ho
  exact ⟨b, C, D, e, hB, hone, mVs_sound r fz h hL⟩
 ·
  obtain ⟨rfl, rfl⟩ := h
  obtain ⟨hz, hO⟩ := ho
  refine ⟨hz, hO.imp id ?_⟩
  rintro ⟨b, C, e, hB, hl, hr⟩
  exact ⟨b, C, e, hB, hl, fun i c p h1 h2 => (hr i c p h1 h2).im fz.old⟩
 ·
  obtain ⟨rfl, hc⟩ := h
  obtain ⟨vs, rfl, rfl⟩ := rowC_spec hc
  obtain ⟨b, C, D, e, hB, hone, hL⟩ := ho
  refine ⟨fun x hx => ?_, .inr ⟨b, C ++ D, e, hB, ?_, fun i c p h1 h2 => ?_⟩⟩
  ·
   obtain ⟨v, _, rfl⟩ := List.mem_map.1 hx
   rfl
  ·
   have := hL.1
   simp at this ⊢
   omega
  ·
   have hf := flat_one vs
   rw [hf, List.getElem?_map] at h2
   cases hv : vs[i]? with
   | none => rw [hv] at h2; cases h2
   | some v =>
    rw [hv] at h2
    cases h2
    have hlt := get_lt hv
    have := hL.1
    rw [List.getElem?_append_left (by simp at this; omega)] at h1
    have := hL.2 i (.lit v) c (by rw [List.getElem?_map, hv]; rfl) h1
    cases this with
    | lit ho => exact .lit ho
 ·
  obtain ⟨hne, rfl⟩ := h
  rename_i l
  obtain ⟨hz, hO⟩ := ho
  rcases hO with ⟨_, e⟩ | ⟨b, C, e, hB, hl, hr⟩
  ·
   exact absurd e hne
  ·
   have hfl := flat_len hz
   refine ⟨b, C.take l.flatten.length, C.drop l.flatten.length, by rw [List.take_append_drop]; exact e, by rw [List.take_append_drop]; exact hB, fun c hc => ?_, ?_, fun i u c h1 h2 => ?_⟩
   ·
    obtain ⟨j, hj, rfl⟩ := List.mem_iff_getElem.1 hc
    have hj2 : j < l.flatten.length := by rw [List.length_take] at hj; omega
    refine (hr j _ _ ?_ (List.getElem?_eq_getElem hj2)).one
    rw [List.getElem_take]
    exact List.getElem?_eq_getElem _
   ·
    rw [List.length_take, List.length_map]; omega
   ·
    rw [List.getElem?_map] at h1
    cases hp : l.flatten[i]? with
    | none => rw [hp] at h1; cases h1
    | some p =>
     rw [hp] at h1
     cases h1
     rw [List.getElem?_take] at h2
     split at h2
     ·
      exact ((hr i c p h2 hp).im fz.old).toV
     ·
      cases h2
 ·
  subst h
  obtain ⟨b, es, e, hB, hl, hr⟩ := ho
  exact ⟨b, es, e, hB, hl, fun i e x h1 h2 => (hr i e x h1 h2).mono (μ := []) (μ' := []) ⟨List.prefix_refl _, fz.old, fun _ _ => rfl⟩⟩
 ·
  obtain ⟨hp, rfl, rfl⟩ := h
  obtain ⟨b, q, k, e, hm, hB⟩ := ho
  exact ⟨b, q, k, e, by rw [muOf_some hp, hm]; rfl, hB⟩
 ·
  exact h.elim
theorem lvp_mem : ∀ {π : Pi} {s : St} {j o : Nat} {ob : Ob}, π[j]? = some (some o) → s[j]? = some (some ob) → o ∈ lvp π s
 | [], _, j, _, _, h, _ => by simp at h
 | _ :: _, [], j, _, _, _, h => by simp at h
 | p :: π, x :: s, 0, o, ob, h1, h2 => by
  simp at h1 h2
  subst h1 h2
  simp [lvp]
 | p :: π, x :: s, j + 1, o, ob, h1, h2 => by
  have ih := lvp_mem (π := π) (s := s) (j := j) (by simpa using h1) (by simpa using h2)
  cases p <;> cases x <;> simp [lvp, ih]
theorem ndl_inj {s : St} (h : ndl π s = true) {i j o : Nat} {ob ob' : Ob} (h1 : π[i]? = some (some o)) (h2 : π[j]? = some (some o)) (l1 : s[i]? = some (some ob)) (l2 : s[j]? = some (some ob')) : i = j := by
 have aux : ∀ (π : Pi) (s : St), (lvp π s).Nodup → ∀ (i j : Nat) (ob ob' : Ob), π[i]? = some (some o) → π[j]? = some (some o) → s[i]? = some (some ob) → s[j]? = some (some ob') → i = j := by
  intro π
  induction π with
  | nil => intro s _ i j _ _ h; simp at h
  | cons p π ih =>
   intro s hn i j ob ob' h1 h2 l1 l2
   cases s with
   | nil => simp at l1
   | cons x s =>
    cases i with
    | zero =>
     cases j with
     | zero => rfl
     | succ j =>
      simp at h1 l1
      subst h1 l1
      simp only [lvp, List.nodup_cons] at hn
      exact absurd (lvp_mem (by simpa using h2) (by simpa using l2)) hn.1
    | succ i =>
     cases j with
     | zero =>
      simp at h2 l2
      subst h2 l2
      simp only [lvp, List.nodup_cons] at hn
      exact absurd (lvp_mem (by simpa using h1) (by simpa using l1)) hn.1
     | succ j =>
      have hn' : (lvp π s).Nodup := by
       cases p <;> cases x <;> simp only [lvp, List.nodup_cons] at hn <;> first | exact hn | exact hn.2
      rw [ih s hn' i j ob ob' (by simpa using h1) (by simpa using h2) (by simpa using l1) (by simpa using l2)]
 exact aux π s (of_decide_eq_true h) i j ob ob' h1 h2 l1 l2
theorem ndl_of_ndp {s : St} (h : ndp π = true) : ndl π s = true := by
 have aux : ∀ (π : Pi) (s : St), (π.filterMap id).Nodup → (lvp π s).Nodup ∧ ∀ o, o ∈ lvp π s → o ∈ π.filterMap id := by
  intro π
  induction π with
  | nil => intro s _; simp [lvp]
  | cons p π ih =>
   intro s hn
   cases s with
   | nil => cases p <;> simp [lvp]
   | cons x s =>
    cases p with
    | none =>
     simp only [List.filterMap_cons, id] at hn ⊢
     have := ih s hn
     cases x <;> simpa [lvp] using this
    | some o =>
     simp only [List.filterMap_cons, id, List.nodup_cons] at hn ⊢
     obtain ⟨h1, h2⟩ := ih s hn.2
     cases x with
     | none => exact ⟨h1, fun q hq => List.mem_cons_of_mem _ (h2 q hq)⟩
     | some ob =>
      simp only [lvp, List.nodup_cons]
      refine ⟨⟨fun h => hn.1 (h2 o h), h1⟩, fun q hq => ?_⟩
      rcases List.mem_cons.1 hq with rfl | hq
      ·
       exact List.mem_cons_self ..
      ·
       exact List.mem_cons_of_mem _ (h2 q hq)
 exact decide_eq_true (aux π s (of_decide_eq_true h)).1
theorem Rel.part {σ₀ : St} (r : Rel μ Im σ w) (fz : Frz μ Im σ ok Im') (hok : ∀ (j o : Nat), π[j]? = some (some o) → ok o = false) (hn : ndl π σ₀ = true) (h : mSt ok π σ σ₀ π)
  (hI : ∀ b, Im' b → Im b ∨ ∃ (o n : Nat) (ob : Ob), ok o = true ∧ σ[o]? = some (some ob) ∧ μ[o]? = some (some (b, n))) : Rel (muOf μ π) Im' σ₀ w ∧ ∀ b ∈ live (muOf μ π) σ₀, b ∈ live μ σ := by
 obtain ⟨hl, hs⟩ := mSt_spec h
 have back : ∀ (j : Nat) ob₀ b n, σ₀[j]? = some (some ob₀) → (muOf μ π)[j]? = some (some (b, n)) → ∃ o ob, π[j]? = some (some o) ∧ σ[o]? = some (some ob) ∧ μ[o]? = some (some (b, n)) := by
  intro j ob₀ b n h1 h2
  rcases hs j ob₀ h1 with ⟨o, ob, h3, h4, _⟩ | ⟨h3, _⟩
  ·
   rw [muOf_some h3] at h2
   obtain ⟨loc, h5, _⟩ := r.rep o ob h4
   rw [h5] at h2
   exact ⟨o, ob, h3, h4, by rw [h5]; simpa using h2⟩
  ·
   rw [muOf_none h3] at h2
   cases h2
 have hlive : ∀ b ∈ live (muOf μ π) σ₀, b ∈ live μ σ := by
  intro b hb
  obtain ⟨j, n, ob₀, h1, h2⟩ := mem_live.1 hb
  obtain ⟨o, ob, _, h4, h5⟩ := back j ob₀ b n h2 h1
  exact mem_live.2 ⟨o, n, ob, h5, h4⟩
 refine ⟨⟨by simp [muOf, hl], fun j ob₀ hj => ?_, fun i j q q' b n n' h1 h2 h3 h4 => ?_, fun b hb => ?_, fun e he => ⟨fz.old _ (r.lay e he).1, (r.lay e he).2⟩⟩, hlive⟩
 ·
  rcases hs j ob₀ hj with ⟨o, ob, h3, h4, h5⟩ | ⟨h3, z, rfl⟩
  ·
   obtain ⟨loc, h6, h7⟩ := r.rep o ob h4
   exact ⟨loc, by rw [muOf_some h3, h6]; rfl, mO_sound r fz h5 h7⟩
  ·
   exact ⟨none, muOf_none h3, by simp, .inl ⟨rfl, rfl⟩⟩
 ·
  obtain ⟨o, ob, e1, e2, e3⟩ := back i q b n h1 h3
  obtain ⟨o', ob', e4, e5, e6⟩ := back j q' b n' h2 h4
  have := r.inj o o' ob ob' b n n' e2 e5 e3 e6
  subst this
  exact ndl_inj hn e1 e4 h1 h2
 ·
  rcases hI b hb with h1 | ⟨o, n, ob, h1, h2, h3⟩
  ·
   exact ⟨(r.im b h1).1, fun h => (r.im b h1).2 (hlive b h)⟩
  ·
   refine ⟨r.lt (mem_live.2 ⟨o, n, ob, h3, h2⟩), fun h => ?_⟩
   obtain ⟨j, m, ob₀, h4, h5⟩ := mem_live.1 h
   obtain ⟨o', ob', h6, h7, h8⟩ := back j ob₀ b m h5 h4
   have := r.inj o o' ob ob' b n m h2 h7 h3 h8
   subst this
   rw [hok j o h6] at h1
   cases h1
end
end Go.Vx

namespace Go.Vx
open Go.Eng
set_option linter.unusedSimpArgs false
set_option linter.unusedVariables false
section
variable {w w' : World} {Im : Nat → Prop} {μ : Mu} {σ : St} {ρ : Vg} {ρc : Rg} {P : Program}

theorem Rel.still (r : Rel μ Im σ w) (hx : Ext [] w w') : Rel μ Im σ w' ∧ Stp μ Im σ w μ Im σ w' := by
 have hm : Mono μ Im w μ Im w' := ⟨List.prefix_refl _, fun _ h => h, fun b hb => hx.block b (r.im b hb).1 (by simp)⟩
 refine ⟨⟨r.len, fun o ob h => ?_, r.inj, fun b hb => ⟨Nat.lt_of_lt_of_le (r.im b hb).1 hx.size, (r.im b hb).2⟩, r.lay.mono hm⟩, ⟨List.prefix_refl _, fun _ h => h, hx.mono (by simp), fun _ h => .inl h, fun _ h => .inl h⟩⟩
 obtain ⟨loc, h1, h2⟩ := r.rep o ob h
 refine ⟨loc, h1, h2.mono hm (fun b n e => ?_)⟩
 subst e
 exact hx.block b (r.lt (mem_live.2 ⟨o, n, ob, h1, h⟩)) (by simp)
theorem Rel.adopt (r : Rel μ Im σ w) {b n : Nat} {ob : Ob} (hf : b ∉ live μ σ) (hi : ¬ Im b) (ho : RepO w Im (μ ++ [some (b, n)]) (some (b, n)) ob) :
  Rel (μ ++ [some (b, n)]) Im (σ ++ [some ob]) w ∧ ∀ c ∈ live (μ ++ [some (b, n)]) (σ ++ [some ob]), c ∈ live μ σ ∨ c = b := by
 have hl := r.len
 have hm : Mono μ Im w (μ ++ [some (b, n)]) Im w := ⟨List.prefix_append _ _, fun _ h => h, fun _ _ => rfl⟩
 have hlive : ∀ c ∈ live (μ ++ [some (b, n)]) (σ ++ [some ob]), c ∈ live μ σ ∨ c = b := by
  intro c hc
  obtain ⟨o, n', ob', h1, h2⟩ := mem_live.1 hc
  rw [get_snoc] at h1 h2
  split at h1
  ·
   rw [if_pos (by omega)] at h2
   exact .inl (mem_live.2 ⟨o, n', ob', h1, h2⟩)
  ·
   split at h1
   ·
    cases h1
    exact .inr rfl
   ·
    cases h1
 refine ⟨⟨by simp [hl], fun o ob' h => ?_, fun o o' q q' c n1 n2 h1 h2 h3 h4 => ?_, fun c hc => ⟨(r.im c hc).1, fun hc' => ?_⟩, r.lay⟩, hlive⟩
 ·
  rw [get_snoc] at h
  split at h
  ·
   obtain ⟨loc', h1, h2⟩ := r.rep o ob' h
   exact ⟨loc', by rw [get_snoc, if_pos (by omega)]; exact h1, h2.mono hm (fun _ _ _ => rfl)⟩
  ·
   split at h
   ·
    cases h
    rename_i _ e
    exact ⟨_, by rw [get_snoc, if_neg (by omega), if_pos (by omega)], ho⟩
   ·
    cases h
 ·
  rw [get_snoc] at h1 h2 h3 h4
  split at h3
  ·
   rw [if_pos (by omega)] at h1
   split at h4
   ·
    rw [if_pos (by omega)] at h2
    exact r.inj o o' q q' c n1 n2 h1 h2 h3 h4
   ·
    split at h4
    ·
     cases h4
     exact absurd (mem_live.2 ⟨o, n1, q, h3, h1⟩) hf
    ·
     cases h4
  ·
   split at h3
   ·
    cases h3
    split at h4
    ·
     rw [if_pos (by omega)] at h2
     exact absurd (mem_live.2 ⟨o', n2, q', h4, h2⟩) hf
    ·
     split at h4
     ·
      omega
     ·
      cases h4
   ·
    cases h3
 ·
  rcases hlive c hc' with h | h
  ·
   exact (r.im c hc).2 h
  ·
   subst h; exact hi hc
def MkOf (P : Program) (μ : Mu) (Im : Nat → Prop) (σ : St) (w : World) (K : KV) (op : World → Kv → Prop) : Prop :=
 ∃ (ob : Ob) (C : List Value) (ty : TypeId) (u : V) (f : Nat → Value),
  (∀ w' (k : Kv), op w' k = k true (f w'.heap.size) (w'.alloc (.cells C.toArray ty))) ∧ K true u (σ ++ [some ob]) ∧ (∀ c ∈ C, oneC c = true) ∧
  ∀ w1 b, Mono μ Im w (μ ++ [some (b, C.length)]) Im w1 → Blk w1 b C → RepO w1 Im (μ ++ [some (b, C.length)]) (some (b, C.length)) ob ∧ RepV w1 Im (μ ++ [some (b, C.length)]) u (f b)
theorem alc_mk {t : TypeId} {K : KV} (r : Rel μ Im σ w) (h : alcV P t σ K) : MkOf P μ Im σ w K fun w' k => allocK P t w' k := by
 unfold alcV at h
 cases hz : zeOf P t with
 | none => rw [hz] at h; exact h.elim
 | some C =>
  rw [hz] at h
  obtain ⟨h1, h2⟩ := allOne_iff.1 h
  refine ⟨.cells (C.map V.lit), C, t, .ref σ.length 0 0 0, fun b => .pointer (some ⟨b, 0, none⟩), fun w' k => allocK_of hz, h2, all_mem h1, fun w1 b hm hB => ⟨RepO.cells0 rfl hB (all_mem h1) (RepL.lits h1), ?_⟩⟩
  have e5 := RepV.ref (w := w1) (Im := Im) (μ := μ ++ [some (b, C.length)]) (o := σ.length) (b := b) (n := C.length) (z := 0) (i := 0) (off := 0) (by rw [get_snoc, if_neg (by rw [r.len]; omega), if_pos r.len.symm])
  simpa only [Nat.zero_mul, Nat.zero_add] using e5
theorem bsl_mk {t : TypeId} {n : Nat} {js : List Nat} {us : List V} {vs : List Value} {K : KV} (r : Rel μ Im σ w) (hj : js.length = us.length) (hr : RepL w Im μ us vs) (h : bslV P t n (js.zip us) σ K) : MkOf P μ Im σ w K fun w' k => bslK P t n (js.zip vs) w' k := by
 unfold bslV at h
 split at h
 ·
  rename_i et z hel
  obtain ⟨ht, hz⟩ := elOf_spec hel
  split at h
  ·
   rename_i hc
   obtain ⟨hze, hz0, hn⟩ := hc
   have hze' := hze
   unfold zeOf at hze
   obtain ⟨Z, hZ⟩ := Option.isSome_iff_exists.1 hze
   cases hzz : (P.info? et).bind (·.zero) with
   | none => rw [hzz] at hZ; cases hZ
   | some zv =>
    have key : ∀ (D : Array Value), D.size = n * z → ∃ l C, Instr.fill (fun i => some (i * z, z)) D (js.zip vs) = some (C : List Value).toArray ∧ (∀ w1 b, Mono μ Im w (μ ++ [some (b, C.length)]) Im w1 → Blk w1 b C → RepO w1 Im (μ ++ [some (b, C.length)]) (some (b, C.length)) (.row z l)) ∧ (∀ c ∈ C, oneC c = true) ∧ newO σ (.row z l) (fun o σ' => K true (.sl o z 0 n) σ') ∧ C.length = n * z := by
     intro D hD
     have hlen : us.length = n := by
      have aux : ∀ (js : List Nat) (us : List V) (j : Nat) (G : List (List PV) → Prop), js.length = us.length → prtK z j (js.zip us) G → ∃ l : List (List PV), l.length = us.length ∧ G l := by
       intro js
       induction js with
       | nil => intro us j G h1 h2; have : us = [] := List.length_eq_zero_iff.1 (by simpa using h1.symm); subst this; exact ⟨[], rfl, h2⟩
       | cons a js ih =>
        intro us j G h1 h2
        cases us with
        | nil => simp at h1
        | cons u us =>
         simp only [List.zip_cons_cons, prtK] at h2
         split at h2
         ·
          have aux2 : ∀ {u : V} {F : List V → Prop}, clK u F → ∃ l, F l := by
           intro u F h
           unfold clK at h
           split at h
           ·
            exact ⟨_, h⟩
           ·
            exact h.elim
           ·
            exact ⟨_, h⟩
          obtain ⟨c, h3⟩ := aux2 h2
          obtain ⟨_, h4⟩ := lenK_sound h3
          have aux3 : ∀ {c : List V} {F : List PV → Prop}, pvsK c F → ∃ l, F l := by
           intro c
           induction c with
           | nil => intro F h; exact ⟨_, h⟩
           | cons u c ih =>
            intro F h
            simp only [pvsK] at h
            unfold pvK at h
            split at h
            ·
             exact (ih h).elim fun _ h => ⟨_, h⟩
            ·
             exact (ih h).elim fun _ h => ⟨_, h⟩
            ·
             exact (ih h).elim fun _ h => ⟨_, h⟩
            ·
             exact (ih h).elim fun _ h => ⟨_, h⟩
            ·
             exact h.elim
          obtain ⟨ps, h5⟩ := aux3 h4
          obtain ⟨l, h6, h7⟩ := ih us (j + 1) _ (by simpa using h1) h5
          exact ⟨ps :: l, by simp [h6], h7⟩
         ·
          exact h2.elim
      obtain ⟨l, h1, h2⟩ := aux js us 0 _ hj h
      obtain ⟨h3, _⟩ := lenK_sound h2
      omega
     obtain ⟨l, C, e1, e2, e3, e4, e5, e6, e7⟩ := prt_sound (n := n * z) (D := D.toList) hj hr (by simpa using hD) (by simp) h (by rw [hlen, Nat.zero_add])
     obtain ⟨_, e8⟩ := lenK_sound e7
     simp only [Nat.zero_mul, List.take_zero, List.nil_append, Array.toArray_toList] at e6
     exact ⟨l, C, e6, fun w1 b hm hB => ⟨e2, .inr ⟨_, C, rfl, hB, by rw [e3, e1]; exact Nat.le_refl _, fun i c p hc hp => (e4 i c p hc hp).mono hm⟩⟩, e5, e8, by rw [e3, hlen]⟩
    have fin : ∀ (Z : Array Value), (∀ (w' : World) (k : Kv), bslK P t n (js.zip vs) w' k = resK ((do
      let some cells := Instr.fill (fun i => some (i * z, z)) ((Array.range (n * z)).map (Z[· % Z.size]!)) (js.zip vs).toArray.toList | stuck "buildSlice: a part of the wrong size"
      pure (.slice (some (← newRow et cells)) n n) : Sem Value).run P w') (k true)) → MkOf P μ Im σ w K fun w' k => bslK P t n (js.zip vs) w' k := by
     intro Z hZ
     obtain ⟨l, C, f1, f2, f5, f3, f4⟩ := key ((Array.range (n * z)).map (Z[· % Z.size]!)) (by simp)
     have f1' : Instr.fill (fun i => some (i * z, z)) ((Array.range (n * z)).map (Z[· % Z.size]!)) (js.zip vs).toArray.toList = some C.toArray := f1
     refine ⟨.row z l, C, et, .sl σ.length z 0 n, fun b => .slice (some ⟨b, 0, none⟩) n n, fun w' k => ?_, f3, f5, fun w1 b hm hB => ⟨f2 w1 b hm hB, .sl ⟨Nat.le_refl _, ?_⟩⟩⟩
     ·
      dsimp only
      rw [hZ, f1']
      rfl
     ·
      rw [get_snoc, if_neg (by rw [r.len]; omega), if_pos r.len.symm]
      exact ⟨fun _ => by simp, by simp [f4]⟩
    by_cases h0 : n * z = 0
    ·
     refine fin #[] fun w' k => ?_
     unfold bslK runK Instr.buildSlice
     rw [Sem.run_bind, run_underlying ht, Result.andThen_ok]
     simp only [Sem.run_bind, Go.Eng.run_sizeOf hz, Result.andThen_ok]
     rw [if_neg (by omega), if_pos h0]
     simp only [pure_bind]
     rfl
    ·
     refine fin zv.cells fun w' k => ?_
     unfold bslK runK Instr.buildSlice
     rw [Sem.run_bind, run_underlying ht, Result.andThen_ok]
     simp only [Sem.run_bind, Go.Eng.run_sizeOf hz, Result.andThen_ok]
     rw [if_neg (by omega), if_neg h0]
     simp only [Sem.run_bind, run_zero hzz, Result.andThen_ok, pure_bind, bind_assoc]
     rfl
  ·
   exact h.elim
 ·
  exact h.elim
theorem msl_mk {t : TypeId} {l c : V} {a b : Value} {K : KV} (r : Rel μ Im σ w) (hl : RepV w Im μ l a) (hc : RepV w Im μ c b) (h : mslV P t l c σ K) : MkOf P μ Im σ w K fun w' k => msl P t a b w' k := by
 unfold mslV at h
 split at h
 ·
  rename_i et z hel
  obtain ⟨ht, hz⟩ := elOf_spec hel
  split at h
  ·
   rename_i C y hze hby
   unfold mslU at h
   split at h
   ·
    rename_i n m
    split at h
    ·
     rename_i hcond
     obtain ⟨h0, rfl, hb, hlt, hy0, hCz⟩ := hcond
     obtain ⟨hone, hK⟩ := allOne_iff.1 h
     cases hl; cases hc
     obtain ⟨N, rfl⟩ := Int.eq_ofNat_of_zero_le h0
     rw [Int.toNat_natCast] at hK
     obtain ⟨ti, hti, hbyt⟩ : ∃ ti, P.info? et = some ti ∧ ti.bytes = y := by
      unfold byOf at hby
      cases hi : P.info? et with
      | none => rw [hi] at hby; cases hby
      | some ti => rw [hi] at hby; exact ⟨ti, rfl, by simpa using hby⟩
     obtain ⟨zv, hzv, hzc⟩ := zeOf_spec hze
     have hzs : zv.cells.size = z := by rw [← hCz, ← hzc]; simp
     have fin : ∀ (Z : Array Value), (N * z ≠ 0 → Z = zv.cells) → (∀ (w' : World) (k : Kv), msl P t (.int .i64 (Int.ofNat N)) (.int .i64 (Int.ofNat N)) w' k = resK ((do
       let a ← newRow et ((Array.range (N * z)).map (Z[· % Z.size]!))
       pure (.slice (some a) N N) : Sem Value).run P w') (k true)) → MkOf P μ Im σ w K fun w' k => msl P t (.int .i64 (Int.ofNat N)) (.int .i64 (Int.ofNat N)) w' k := by
      intro Z hZ hrun
      obtain ⟨D, hD, hDs⟩ : ∃ D : List Value, (Array.range (N * z)).map (Z[· % Z.size]!) = D.toArray ∧ ∀ (i : Nat) c, D[i]? = some c → i < N * z ∧ zv.cells[i % z]? = some c := by
       refine ⟨(List.range (N * z)).map (Z[· % Z.size]!), by apply Array.toList_inj.1; simp, fun i c hc => ?_⟩
       rw [List.getElem?_map] at hc
       have hi : i < N * z := by
        by_cases hi : i < N * z
        ·
         exact hi
        ·
         rw [List.getElem?_eq_none (by simp; omega)] at hc; cases hc
       refine ⟨hi, ?_⟩
       rw [List.getElem?_range hi] at hc
       simp only [Option.map_some, Option.some.injEq] at hc
       have hz0 : 0 < z := by
        rcases Nat.eq_zero_or_pos z with h | h
        ·
         subst h; simp at hi
        ·
         exact h
       rw [hZ (by omega), hzs] at hc
       have hlt2 : i % z < zv.cells.size := by rw [hzs]; exact Nat.mod_lt _ hz0
       rw [getElem!_pos zv.cells _ hlt2] at hc
       rw [Array.getElem?_eq_getElem hlt2, hc]
      have hDl : D.length = N * z := by
       have := congrArg Array.size hD
       simpa using this.symm
      have hD1 : ∀ c ∈ D, oneC c = true := fun c hc => by
       obtain ⟨i, hi, rfl⟩ := List.mem_iff_getElem.1 hc
       have h2 := (hDs i _ (List.getElem?_eq_getElem hi)).2
       refine all_mem hone _ ?_
       rw [← hzc]
       exact List.mem_of_getElem? (by rw [Array.getElem?_toList]; exact h2)
      refine ⟨.row z (zrow C N), D, et, .sl σ.length z 0 N, fun b => .slice (some ⟨b, 0, none⟩) N N, fun w' k => ?_, hK, hD1, fun w1 b hm hB => ⟨⟨fun x hx => by
        unfold zrow at hx
        rw [(List.mem_replicate.1 hx).2]
        simp [hCz], .inr ⟨_, D, rfl, hB, by simp [zrow, hDl], fun i c p hc hp => by
       obtain ⟨c', h1, rfl⟩ := zrow_get hp
       have h2 := (hDs i c hc).2
       rw [hCz, ← hzc, Array.getElem?_toList] at h1
       rw [h1] at h2
       cases h2
       refine .lit ?_
       refine all_mem hone _ ?_
       rw [← hzc]
       exact List.mem_of_getElem? (by rw [Array.getElem?_toList]; exact h1)⟩⟩, .sl ⟨Nat.le_refl _, ?_⟩⟩⟩
      ·
       dsimp only
       rw [hrun, hD]
       rfl
      ·
       rw [get_snoc, if_neg (by rw [r.len]; omega), if_pos r.len.symm]
       exact ⟨fun _ => by simp, by simp [hDl]⟩
     have hw : IntKind.i64.wrap (N : Int) = N := wrap_i64 (by omega)
     have hbig : ((y : Int) * (N : Int) > 2 ^ 48) = False := by
      rw [Int.mul_comm]
      simp only [eq_iff_iff, iff_false]
      omega
     have h1 : (decide ((N : Int) < 0) || decide ((y : Int) * (N : Int) > 2 ^ 48)) = false := by
      rw [decide_eq_false (by omega), decide_eq_false (by rw [hbig]; exact id)]; rfl
     have hroomrun : ∀ (c : Nat) (w : World), (askRoom c).run P w = .ok () w := fun c w => by
      unfold askRoom
      split <;> rfl
     by_cases hz0 : N * z = 0
     ·
      refine fin #[] (fun h => absurd hz0 h) fun w' k => ?_
      unfold msl runK Instr.makeSlice
      simp only [Sem.run_bind, run_underlying ht, Result.andThen_ok, asInt, asIntOf, pure_bind, Go.Eng.run_typeInfo hti, hbyt]
      rw [show IntKind.i64.wrap (Int.ofNat N) = (N : Int) from hw]
      simp only [h1, Bool.false_or, Bool.or_false]
      rw [if_neg (by simp)]
      simp only [Sem.run_bind, hroomrun, Result.andThen_ok, Go.Eng.run_sizeOf hz, Int.toNat_natCast]
      rw [if_pos hz0]
      rfl
     ·
      refine fin zv.cells (fun _ => rfl) fun w' k => ?_
      unfold msl runK Instr.makeSlice
      simp only [Sem.run_bind, run_underlying ht, Result.andThen_ok, asInt, asIntOf, pure_bind, Go.Eng.run_typeInfo hti, hbyt]
      rw [show IntKind.i64.wrap (Int.ofNat N) = (N : Int) from hw]
      simp only [h1, Bool.false_or, Bool.or_false]
      rw [if_neg (by simp)]
      simp only [Sem.run_bind, hroomrun, Result.andThen_ok, Go.Eng.run_sizeOf hz, Int.toNat_natCast]
      rw [if_neg hz0]
      simp only [Sem.run_bind, run_zero hzv, Result.andThen_ok, pure_bind, bind_assoc]
    ·
     exact h.elim
   ·
    exact h.elim
  ·
   exact h.elim
 ·
  exact h.elim
def mkB (o : Oper) : Bool := match o.op with | .alloc _ | .buildSlice .. | .makeSlice .. => true | _ => false
theorem opV_mk {τ : Bool} {o : Oper} {K : KV} (hm : mkB o = true) (r : Rel μ Im σ w) (hg : RepG w Im μ ρ ρc) (h : opV τ true P o ρ σ K) : MkOf P μ Im σ w K fun w' k => opK true P o ρc w' k := by
 obtain ⟨d, op, ty, pos, af, g⟩ := o
 unfold opV at h
 cases op with
 | alloc t => exact alc_mk r h
 | buildSlice t n ps =>
  obtain ⟨js, us, vs, h0, h1, h2, h3⟩ := evpV_sound hg h
  have := bsl_mk r h0 h1 h2
  have e : (fun w' k => opK true P ⟨d, .buildSlice t n ps, ty, pos, af, g⟩ ρc w' k) = fun w' k => bslK P t n (js.zip vs) w' k := by
   funext w' k
   exact h3 (fun vs => bslK P t n vs w' k)
  rw [e]
  exact this
 | makeSlice t l c =>
  obtain ⟨u, a, h1, h2, h3⟩ := evV_sound hg h
  obtain ⟨u', a', h4, h5, h6⟩ := evV_sound hg h2
  have := msl_mk r h1 h4 h5
  have e : (fun w' k => opK true P ⟨d, .makeSlice t l c, ty, pos, af, g⟩ ρc w' k) = fun w' k => msl P t a a' w' k := by
   funext w' k
   show (evK ρc l fun l => evK ρc c fun c => msl P t l c w' k) = _
   rw [h3, h6]
  rw [e]
  exact this
 | _ => cases hm
theorem val_run2 {o : Oper} {a : Act} {w w2 : World} {s : Sem Value} {v : Value} (he : execOp a.eval o = (do pure (.value (← s)))) (h : runK P s w fun u w' => w' = w2 ∧ u = v) : (execOp a.eval o).run P w = .ok (.value v) w2 := by
 rw [he]
 unfold runK at h
 rw [Sem.run_bind]
 cases hs : s.run P w with
 | ok u w' => rw [hs] at h; obtain ⟨rfl, rfl⟩ := h; rfl
 | halt x w' => rw [hs] at h; exact h.elim
set_option maxHeartbeats 4000000 in
theorem mk_exec {n : Nat} {o : Oper} {a : Act} {v : Value} {w w2 : World} (hm : mkB o = true) (hok : Ok n a ρc) (h : ∀ k : Kv, opK true P o ρc w k = k true v w2) : (execOp a.eval o).run P w = .ok (.value v) w2 := by
 have h := (h fun _ u w' => w' = w2 ∧ u = v).mpr ⟨rfl, rfl⟩
 obtain ⟨d, op, ty, pos, af, g⟩ := o
 cases op with
 | alloc t => exact val_run2 (s := Instr.alloc t true (.tuple #[])) rfl h
 | buildSlice t m ps =>
  have h0 : evpK ρc ps.toList fun vs => runK P (Instr.buildSlice t m vs.toArray) w fun u w' => w' = w2 ∧ u = v := h
  have h1 := evpK_sound hok h0
  refine val_run2 (s := Instr.buildSlice t m (ps.map fun (i, x) => (i, a.eval x))) rfl ?_
  have e : (ps.map fun (i, x) => (i, a.eval x)) = (ps.toList.map fun (i, x) => (i, a.eval x)).toArray := by
   rw [← Array.toList_map, Array.toArray_toList]
  exact e ▸ h1
 | makeSlice t l c =>
  have h0 : evK ρc l fun l => evK ρc c fun c => runK P (Instr.makeSlice t l c) w fun u w' => w' = w2 ∧ u = v := h
  have h1 := evK_sound hok h0
  have h2 := evK_sound hok h1
  exact val_run2 (s := Instr.makeSlice t (a.eval l) (a.eval c)) rfl h2
 | _ => cases hm
end
end Go.Vx
