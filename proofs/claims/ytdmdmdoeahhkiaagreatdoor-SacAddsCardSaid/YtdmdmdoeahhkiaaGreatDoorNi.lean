import Derived.Test.YtdmdmdoeahhkiaaGreatDoorE6
import Derived.Test.YtdmdmdoeahhkiaaGreatDoorZ2
import Derived.Test.YtdmdmdoeahhkiaaGreatDoorD3
import Derived.Test.YtdmdmdoeahhkiaaGreatDoorRows
import Derived.OpenShut
import Derived.MakeChecks
import Derived.FnData
namespace Go.Vx
open Go.Eng
set_option linter.unusedSimpArgs false
set_option linter.unusedVariables false
section
variable {P : Program}
def FnR (P : Program) (f : FuncId) (vs : List V) (σ : St) {X : Type} (R : X → Prop) (r : X → V) (s : X → St) : Prop := Fn P f vs σ fun u' s' => ∃ x, R x ∧ u' = r x ∧ s' = s x
theorem fnRN_of {f : FuncId} {fn : Func} {c : Code} {vs : List V} {σ : St} {X : Type} {R : X → Prop} {r : X → V} {s : X → St} (pl : Plans) (hm : P.follows .mixedOrders = true) (hcf : ∀ (args : Array Value) (w : World), (callFunc f args).run P w = .ok (.enter f args) w)
    (hf : P.funcs[f]? = some fn) (hb : fn.body = some c) (hc : chkN fn.ntmps pl c = true) (hs : Nat.ble vs.length fn.ntmps = true) (rs : List ResultVar) (hr : fn.results.toList = rs)
    (h : ∀ Q : V → St → Prop, (∀ x, R x → Q (r x) (s x)) → denV true P σ.length pl c (rgV 0 vs) σ (retPV P rs (EndV σ.length Q))) : FnR P f vs σ R r s :=
  fn_of pl hm hcf hf hb (chkN_chk hc) hs rs hr (h _ fun x hx => ⟨x, hx, rfl, rfl⟩)
theorem callR {e : Bool} {f : FuncId} {vs vs₀ : List V} {σ σ₀ : St} {X : Type} {R : X → Prop} {r : X → V} {s : X → St} {K : KV} (π : Pi) (F : List Nat) (spec : FnR P f vs₀ σ₀ R r s)
    (hk : ∀ x, R x → K true (renV (rnm (vpi σ.length π) (σ.length + vcnt π)) (r x)) (behd π F σ (s x)))
    (h1 : (ndp π && π.all (fun p => match p with | some p => decide (p < σ.length) && !F.contains p | none => true)) = true := by rfl)
    (h2 : mSt F.contains π σ σ₀ π := by simp (disch := (first | omega | (simp only [List.length_append, List.length_set, List.length_cons, List.length_nil, List.length_replicate, List.length_take, List.length_drop, List.length_map, List.length_range, true_and, and_true]; (try omega); done) | fail)) only [go_sem, Int.reduceEq, Int.reduceToNat, Nat.reduceAdd, Nat.reduceMul, Nat.reduceEqDiff, ↓reduceIte, true_and, and_true, and_self, List.drop_zero, List.take_length, Nat.le_refl, V.lit.injEq, Value.int.injEq, Value.bool.injEq]; try (first | omega | (simp; done) | (simp; omega)))
    (h3 : mVs F.contains π σ vs₀ vs := by simp (disch := (first | omega | (simp only [List.length_append, List.length_set, List.length_cons, List.length_nil, List.length_replicate, List.length_take, List.length_drop, List.length_map, List.length_range, true_and, and_true]; (try omega); done) | fail)) only [go_sem, Int.reduceEq, Int.reduceToNat, Nat.reduceAdd, Nat.reduceMul, Nat.reduceEqDiff, ↓reduceIte, true_and, and_true, and_self, List.drop_zero, List.take_length, Nat.le_refl, V.lit.injEq, Value.int.injEq, Value.bool.injEq]; try (first | omega | (simp; done) | (simp; omega))) (he : e = true → σ₀ = [] := by simp) : callV P e f vs σ K :=
  callV_of π F spec ⟨h1, h2, h3⟩ he fun u s ⟨x, hx, h4, h5⟩ => by rw [h4, h5]; exact hk x hx
end
@[go_sem] theorem pnO_cells {l : List V} : pnO (.cells l) = (pnV.pnL l = true) := (rfl)
end Go.Vx

namespace Go.Proofs.YtdmdmdoeahhkiaaGreatDoor
open Go.Eng Go.Vx
set_option linter.unusedSimpArgs false
set_option linter.unusedVariables false
set_option maxRecDepth 100000
theorem rat_div_eq {x y : Rat} : ((x.num * (y.den : Int) : Int) : Rat) / ((y.num * (x.den : Int) : Int) : Rat) = x / y := by
  rw [← Rat.divInt_eq_div, Rat.div_def x y, Rat.inv_def]
  conv => rhs; rw [← Rat.num_divInt_den x]
  rw [Rat.divInt_mul_divInt, Int.mul_comm y.num]
theorem rat_num_ne {y : Rat} (h : y ≠ 0) : y.num ≠ 0 := fun e => h (Rat.num_eq_zero.1 e)
theorem rdiv_fn {x y : Rat} (hy0 : y ≠ 0) (hx : RS 400000 x) (hy : RS 400000 y) : Fn1 Tryz.prog 119 [RV x, RV y] [] (.tup [RV (x / y), .lit (.int .i64 0)]) [] := by
  obtain ⟨hx1, hx2⟩ := hx
  obtain ⟨hy1, hy2⟩ := hy
  have hm1 := wmul_fn (x := x.num) (y := (y.den : Int)) (by omega) (by simp only [Int.natAbs_natCast]; omega)
  have hm2 := wmul_fn (x := y.num) (y := (x.den : Int)) (by omega) (by simp only [Int.natAbs_natCast]; omega)
  have hl1 := len_mulZ (x := x.num) (y := (y.den : Int)) hx1 (by simp only [Int.natAbs_natCast]; exact hy2)
  have hl2 := len_mulZ (x := y.num) (y := (x.den : Int)) hy1 (by simp only [Int.natAbs_natCast]; exact hx2)
  have hn0 : y.num * (x.den : Int) ≠ 0 := Int.mul_ne_zero (rat_num_ne hy0) (by have := x.den_nz; omega)
  have hr := rfrac_fn (p := x.num * (y.den : Int)) (q := y.num * (x.den : Int)) hn0 (by omega) (by omega)
  rw [rat_div_eq] at hr
  refine fn1N_of pl119 (by kernel_rfl) Tryz.call119 Tryz.func119 rfl (by kernel_rfl) rfl [.cell 4 48, .tmp 5] (by kernel_rfl) fun Q hQ => ?_
  refine runW ?_
  refine callV0 (rdenw_fn (x := y) (by omega)) rfl rfl ?_
  refine runW ?_
  refine callV0 (hm1) rfl rfl ?_
  refine runW ?_
  refine callV0 (rdenw_fn (x := x) (by omega)) rfl rfl ?_
  refine runW ?_
  refine callV0 (hm2) rfl rfl ?_
  refine runW ?_
  refine callV0 (hr) rfl rfl ?_
  refine runW ?_
  exact endW [] hQ
theorem RS_div {k l : Nat} {x y : Rat} (hk : 1 ≤ k + l) (hx : RS k x) (hy : RS l y) : RS (k + l) (x / y) := by
  by_cases h : y = 0
  · subst h
    have e : x / 0 = 0 := by rw [Rat.div_def, Rat.inv_zero, Rat.mul_zero]
    rw [e]
    exact ⟨by rw [show (0 : Rat).num.natAbs = 0 from rfl, wg_zero]; exact Nat.zero_le _, Nat.le_trans (wg_one (by decide)) hk⟩
  · have hn0 : y.num * (x.den : Int) ≠ 0 := Int.mul_ne_zero (rat_num_ne h) (by have := x.den_nz; omega)
    rw [← rat_div_eq, ← frac_eq hn0]
    refine RS_mk (by omega) ?_ ?_
    · rw [sg_abs]
      exact len_mulZ hx.1 (by simp only [Int.natAbs_natCast]; exact hy.2)
    · have := len_mulZ (x := y.num) (y := (x.den : Int)) hy.1 (by simp only [Int.natAbs_natCast]; exact hx.2)
      omega
theorem rfloor_fn {x : Rat} (hx : RS 400000 x) : Fn1 Tryz.prog 179 [RV x] [] (WV x.floor) [] := by
  obtain ⟨hx1, hx2⟩ := hx
  have hd := wdiv_fn (x := x.num) (y := (x.den : Int)) (by have := x.den_nz; omega) (by omega) (by simp only [Int.natAbs_natCast]; omega)
  rw [← Rat.floor_def] at hd
  refine fn1N_of pl179 (by kernel_rfl) Tryz.call179 Tryz.func179 rfl (by kernel_rfl) rfl [.cell 2 46] (by kernel_rfl) fun Q hQ => ?_
  refine runW ?_
  refine callV0 (rdenw_fn (x := x) (by omega)) rfl rfl ?_
  refine runW ?_
  refine callV0 (hd) rfl rfl ?_
  refine runW ?_
  exact endW [] hQ
end Go.Proofs.YtdmdmdoeahhkiaaGreatDoor

namespace Go.Proofs.YtdmdmdoeahhkiaaGreatDoor
open Go.Eng Go.Vx
set_option linter.unusedSimpArgs false
set_option linter.unusedVariables false
set_option maxRecDepth 100000
theorem nint_fn {n M : Nat} {m : Int} (hm : max 0 m = (M : Int)) (hM : M ≤ 9223372036854775807) (hn : (wg n).length ≤ 1000000) : Fn1 Tryz.prog 22 [NV n, .lit (.int .i64 m)] [] (.lit (.int .i64 ((min n M : Nat) : Int))) [] := by
  refine fn1N_of pl22 (by kernel_rfl) Tryz.call22 Tryz.func22 rfl (by kernel_rfl) rfl [.tmp 4] (by kernel_rfl) fun Q hQ => ?_
  have hnl := nl_len (wg n)
  by_cases h1 : 1 < (wg n).length
  · have hgt : 18446744073709551616 ≤ n := by
      refine Classical.byContradiction fun h => ?_
      have := wg_one (n := n) (by omega)
      omega
    rw [show min n M = M by omega] at hQ
    have hc : decide ((1 : Int) < ((nl (wg n)).length : Int)) = true := decide_eq_true (by omega)
    simp (maxSteps := 1000000) (disch := (first | omega | (simp only [lnA, List.length_map, List.length_range, true_and, and_true]; (try omega); done) | fail)) only [go_sem, hm, hc, Int.reduceEq, Int.reduceToNat, Nat.reduceAdd, Nat.reduceMul, Nat.reduceEqDiff, ↓reduceIte]
    exact endW [] hQ
  · have hc : decide ((1 : Int) < ((nl (wg n)).length : Int)) = false := decide_eq_false (by omega)
    by_cases h0 : n = 0
    · subst h0
      rw [wg_zero] at hnl
      rw [show min 0 M = 0 by omega] at hQ
      have hz := zero_fn (n := 0) (by rw [wg_zero]; decide)
      rw [NV_zero] at hz
      simp (maxSteps := 1000000) (disch := (first | omega | (simp only [lnA, List.length_map, List.length_range, true_and, and_true]; (try omega); done) | fail)) only [go_sem, hm, wg_zero, Int.reduceEq, Int.reduceToNat, Nat.reduceAdd, Nat.reduceMul, Nat.reduceEqDiff, ↓reduceIte]
      refine callV0 (hz) rfl rfl ?_
      refine runW ?_
      exact endW [] hQ
    · have h2 : (wg n).length = 1 := by have := wg_of_pos h0; omega
      have hw := wg_of_one h2
      have hlt : n < 18446744073709551616 := wg_lt n n (by rw [hw]; simp)
      have hn1 : nl (wg n) = [(n : Int)] := by rw [hw]; rfl
      by_cases hle : M < n
      · rw [show min n M = M by omega] at hQ
        simp (maxSteps := 1000000) (disch := (first | omega | (simp only [lnA, List.length_map, List.length_range, true_and, and_true]; (try omega); done) | fail)) only [go_sem, hm, hn1, Int.reduceEq, Int.reduceToNat, Nat.reduceAdd, Nat.reduceMul, Nat.reduceEqDiff, ↓reduceIte]
        exact endW [] hQ
      · rw [show min n M = n by omega] at hQ
        have hz := zero_fn (n := n) (by omega)
        rw [decide_eq_false h0] at hz
        unfold NV at hz
        rw [hn1] at hz
        simp (maxSteps := 1000000) (disch := (first | omega | (simp only [lnA, List.length_map, List.length_range, true_and, and_true]; (try omega); done) | fail)) only [go_sem, hm, hn1, Int.reduceEq, Int.reduceToNat, Nat.reduceAdd, Nat.reduceMul, Nat.reduceEqDiff, ↓reduceIte]
        refine callV0 (hz) rfl rfl ?_
        refine runW ?_
        exact endW [] hQ
end Go.Proofs.YtdmdmdoeahhkiaaGreatDoor

namespace Go.Proofs.YtdmdmdoeahhkiaaGreatDoor
open Go.Eng Go.Vx Go.ChangeShapes
set_option linter.unusedSimpArgs false
set_option linter.unusedVariables false
set_option maxRecDepth 100000
theorem laidVars_mem {P : Program} {w : World} : ∀ {l : List (String × DataW Unit)} {ps : List MemPlace}, DataW.LaidVars P w l ps → ∀ {n : String} {d : DataW Unit}, (n, d) ∈ l →
    ∃ g t cs fuel p, P.globalNamed n = some g ∧ (P.globals[g]?).map (·.type) = some t ∧ w.var? P n = some cs ∧ DataW.trod (fun _ => ()) P w 0 (fun _ => true) false fuel t cs.toList = some (d, p)
  | [], _, _, _, _, h => by simp at h
  | (m, e) :: r, ps, h, n, d, hm => by
    obtain ⟨g, t, cs, fuel, p, q, h1, h2, h3, h4, h5, _⟩ := h
    rcases List.mem_cons.1 hm with e' | h'
    · cases e'
      exact ⟨g, t, cs, fuel, p, h1, h2, h3, h4⟩
    · exact laidVars_mem h5 h'
def pow10D : DataW Unit := .agg ((List.range 20).map fun i => .lit (.int .u64 ((10 ^ i : Nat) : Int)))
theorem lay_of {W : World} {l : List (String × DataW Unit)} (hpl : (l.all fun x => x.2.handleName?.isNone) = true) (hm : ("internal/strconv.uint64pow10", pow10D) ∈ l) (hL : laidMetH Tryz.prog l W) : LayOk W (fun b => b < W.heap.size) := by
  rw [MakeChecks.laidMetH_plain _ _ _ hpl] at hL
  obtain ⟨ps, hv, _⟩ := hL
  obtain ⟨g, t, cs, fuel, p, h1, h2, h3, h4⟩ := laidVars_mem hv hm
  obtain rfl := Option.some.inj ((show Tryz.prog.globalNamed "internal/strconv.uint64pow10" = some 2 by kernel_rfl).symm.trans h1)
  obtain rfl := Option.some.inj ((show (Tryz.prog.globals[2]?).map (·.type) = some 256 by kernel_rfl).symm.trans h2)
  have hu : Tryz.prog.underlying 256 = some (.array 20 108) := by kernel_rfl
  have he : Tryz.prog.underlying 108 = some (.int .u64) := by kernel_rfl
  have hc : Tryz.prog.cellsOf 108 = 1 := by kernel_rfl
  have hct : Tryz.prog.cellsOf 256 = 20 := by kernel_rfl
  obtain ⟨xs, m, _, hx, hlen, hn, hel⟩ := DataW.trod_array hu h4
  rw [hct] at hlen
  simp only [Prod.mk.injEq] at hx
  have hxs : xs.map (·.1) = (List.range 20).map fun i => (DataW.lit (.int .u64 ((10 ^ i : Nat) : Int)) : DataW Unit) := by
    have := hx.1
    unfold pow10D at this
    simpa using this.symm
  have key : ∀ i, i < 20 → cs.toList[i]? = some (.int .u64 ((10 ^ i : Nat) : Int)) := by
    intro i hi
    have h5 := hel i hi
    rw [hc, Nat.mul_one] at h5
    have hxi : xs[i]? = some (xs[i]'(by omega)) := List.getElem?_eq_getElem _
    rw [hxi] at h5
    obtain ⟨k, e1, e2, _⟩ := DataW.trod_int he h5
    have h6 : (xs.map (·.1))[i]? = some (DataW.lit (.int .u64 ((10 ^ i : Nat) : Int))) := by
      rw [hxs, List.getElem?_map, List.getElem?_range hi]; rfl
    rw [List.getElem?_map, hxi, Option.map_some] at h6
    have h7 := Option.some.inj h6
    rw [e2] at h7
    have hk : k = ((10 ^ i : Nat) : Int) := by
      injection h7 with h8
      injection h8
    have h8 := congrArg (fun l => l[0]?) e1
    simp only [List.getElem?_take, List.getElem?_drop] at h8
    rw [hk] at h8
    simpa using h8
  have cell : ∀ i, i < 20 → W.cell? ⟨2, i, none⟩ = some (.int .u64 ((10 ^ i : Nat) : Int)) := by
    intro i hi
    rw [World.var?_cell h1 h3 i, ← key i hi]
    simp
  intro e hem
  simp only [layT, List.mem_singleton] at hem
  subst hem
  refine ⟨World.block_lt_of_cell? _ _ (cell 0 (by decide)), fun _ => rfl, fun i hi => ?_⟩
  have hi' : i < 20 := by simpa using hi
  have := cell i hi'
  show W.cell? ⟨2, 0 + i, none⟩ = _
  rw [Nat.zero_add, this]
  simp
theorem layK_pow {m : Nat} {F : Value → Prop} (hm : m < 20) : layK 2 m F = F (.int .u64 ((10 ^ m : Nat) : Int)) := by
  unfold layK layAt layT
  simp [List.find?, hm, oneC]
end Go.Proofs.YtdmdmdoeahhkiaaGreatDoor
