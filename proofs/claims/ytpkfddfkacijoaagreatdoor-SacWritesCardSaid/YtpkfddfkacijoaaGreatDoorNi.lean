import Derived.Test.YtpkfddfkacijoaaGreatDoorD3
import Derived.Test.YtpkfddfkacijoaaGreatDoorE6
import Derived.Test.YtpkfddfkacijoaaGreatDoorRows
import Derived.OpenShut
import Derived.MakeChecks
import Derived.FnData
namespace Go.Proofs.YtpkfddfkacijoaaGreatDoor
open Go.Eng Go.Vx
set_option linter.unusedSimpArgs false
set_option linter.unusedVariables false
set_option maxRecDepth 100000
theorem nint_fn {n M : Nat} {m : Int} (hm : max 0 m = (M : Int)) (hM : M ≤ 9223372036854775807) (hn : (wg n).length ≤ 1000000) : Fn1 Tryz.prog 147 [NV n, .lit (.int .i64 m)] [] (.lit (.int .i64 ((min n M : Nat) : Int))) [] := by
 refine fn1N_of pl147 (by kernel_rfl) Tryz.call147 Tryz.func147 rfl (by kernel_rfl) rfl [.tmp 4] (by kernel_rfl) fun Q hQ => ?_
 have hnl := nl_len (wg n)
 by_cases h1 : 1 < (wg n).length
 ·
  have hgt : 18446744073709551616 ≤ n := by
   refine Classical.byContradiction fun h => ?_
   have := wg_one (n := n) (by omega)
   omega
  rw [show min n M = M by omega] at hQ
  have hc : decide ((1 : Int) < ((nl (wg n)).length : Int)) = true := decide_eq_true (by omega)
  simp (maxSteps := 1000000) (disch := (first | omega | (simp only [lnA, List.length_map, List.length_range, true_and, and_true]; (try omega); done) | fail)) only [go_sem, hm, hc, Int.reduceEq, Int.reduceToNat, Nat.reduceAdd, Nat.reduceMul, Nat.reduceEqDiff, ↓reduceIte]
  exact endW [] hQ
 ·
  have hc : decide ((1 : Int) < ((nl (wg n)).length : Int)) = false := decide_eq_false (by omega)
  by_cases h0 : n = 0
  ·
   subst h0
   rw [wg_zero] at hnl
   rw [show min 0 M = 0 by omega] at hQ
   have hz := zero_fn (n := 0) (by rw [wg_zero]; decide)
   rw [NV_zero] at hz
   simp (maxSteps := 1000000) (disch := (first | omega | (simp only [lnA, List.length_map, List.length_range, true_and, and_true]; (try omega); done) | fail)) only [go_sem, hm, wg_zero, Int.reduceEq, Int.reduceToNat, Nat.reduceAdd, Nat.reduceMul, Nat.reduceEqDiff, ↓reduceIte]
   refine callV0 (hz) rfl rfl ?_
   refine runW ?_
   exact endW [] hQ
  ·
   have h2 : (wg n).length = 1 := by have := wg_of_pos h0; omega
   have hw := wg_of_one h2
   have hlt : n < 18446744073709551616 := wg_lt n n (by rw [hw]; simp)
   have hn1 : nl (wg n) = [(n : Int)] := by rw [hw]; rfl
   by_cases hle : M < n
   ·
    rw [show min n M = M by omega] at hQ
    simp (maxSteps := 1000000) (disch := (first | omega | (simp only [lnA, List.length_map, List.length_range, true_and, and_true]; (try omega); done) | fail)) only [go_sem, hm, hn1, Int.reduceEq, Int.reduceToNat, Nat.reduceAdd, Nat.reduceMul, Nat.reduceEqDiff, ↓reduceIte]
    exact endW [] hQ
   ·
    rw [show min n M = n by omega] at hQ
    have hz := zero_fn (n := n) (by omega)
    rw [decide_eq_false h0] at hz
    unfold NV at hz
    rw [hn1] at hz
    simp (maxSteps := 1000000) (disch := (first | omega | (simp only [lnA, List.length_map, List.length_range, true_and, and_true]; (try omega); done) | fail)) only [go_sem, hm, hn1, Int.reduceEq, Int.reduceToNat, Nat.reduceAdd, Nat.reduceMul, Nat.reduceEqDiff, ↓reduceIte]
    refine callV0 (hz) rfl rfl ?_
    refine runW ?_
    exact endW [] hQ
end Go.Proofs.YtpkfddfkacijoaaGreatDoor

namespace Go.Proofs.YtpkfddfkacijoaaGreatDoor
open Go.Eng Go.Vx Go.ChangeShapes
set_option linter.unusedSimpArgs false
set_option linter.unusedVariables false
set_option maxRecDepth 100000
theorem laidVars_mem {P : Program} {w : World} : ∀ {l : List (String × DataW Unit)} {ps : List MemPlace}, DataW.LaidVars P w l ps → ∀ {n : String} {d : DataW Unit}, (n, d) ∈ l →
  ∃ g t cs fuel p, P.globalNamed n = some g ∧ (P.globals[g]?).map (·.type) = some t ∧ w.var? P n = some cs ∧ DataW.trod (fun _ => ()) P w 0 (fun _ => true) false fuel t cs.toList = some (d, p)
 | [], _, _, _, _, h => by simp at h
 | (m, e) :: r, ps, h, n, d, hm => by
  obtain ⟨g, t, cs, fuel, p, q, h1, h2, h3, h4, h5, _⟩ := h
  rcases List.mem_cons.1 hm with e' | h'
  ·
   cases e'
   exact ⟨g, t, cs, fuel, p, h1, h2, h3, h4⟩
  ·
   exact laidVars_mem h5 h'
def pow10D : DataW Unit := .agg ((List.range 20).map fun i => .lit (.int .u64 ((10 ^ i : Nat) : Int)))
theorem lay_of {W : World} {l : List (String × DataW Unit)} (hpl : (l.all fun x => x.2.handleName?.isNone) = true) (hm : ("internal/strconv.uint64pow10", pow10D) ∈ l) (hL : laidMetH Tryz.prog l W) : LayOk W (fun b => b < W.heap.size) := by
 rw [MakeChecks.laidMetH_plain _ _ _ hpl] at hL
 obtain ⟨ps, hv, _⟩ := hL
 obtain ⟨g, t, cs, fuel, p, h1, h2, h3, h4⟩ := laidVars_mem hv hm
 obtain rfl := Option.some.inj ((show Tryz.prog.globalNamed "internal/strconv.uint64pow10" = some 2 by kernel_rfl).symm.trans h1)
 obtain rfl := Option.some.inj ((show (Tryz.prog.globals[2]?).map (·.type) = some 232 by kernel_rfl).symm.trans h2)
 have hu : Tryz.prog.underlying 232 = some (.array 20 50) := by kernel_rfl
 have he : Tryz.prog.underlying 50 = some (.int .u64) := by kernel_rfl
 have hc : Tryz.prog.cellsOf 50 = 1 := by kernel_rfl
 have hct : Tryz.prog.cellsOf 232 = 20 := by kernel_rfl
 obtain ⟨xs, m, _, hx, hlen, hn, hel⟩ := DataW.trod_array hu h4
 rw [hct] at hlen
 simp only [Prod.mk.injEq] at hx
 have hxs : xs.map (·.1) = (List.range 20).map fun i => (DataW.lit (.int .u64 ((10 ^ i : Nat) : Int)) : DataW Unit) := by
  have := hx.1
  unfold pow10D at this
  simpa using this.symm
 have key : ∀ i, i < 20 → cs.toList[i]? = some (.int .u64 ((10 ^ i : Nat) : Int)) := by
  intro i hi
  have h5 := hel i hi
  rw [hc, Nat.mul_one] at h5
  have hxi : xs[i]? = some (xs[i]'(by omega)) := List.getElem?_eq_getElem _
  rw [hxi] at h5
  obtain ⟨k, e1, e2, _⟩ := DataW.trod_int he h5
  have h6 : (xs.map (·.1))[i]? = some (DataW.lit (.int .u64 ((10 ^ i : Nat) : Int))) := by
   rw [hxs, List.getElem?_map, List.getElem?_range hi]; rfl
  rw [List.getElem?_map, hxi, Option.map_some] at h6
  have h7 := Option.some.inj h6
  rw [e2] at h7
  have hk : k = ((10 ^ i : Nat) : Int) := by
   injection h7 with h8
   injection h8
  have h8 := congrArg (fun l => l[0]?) e1
  simp only [List.getElem?_take, List.getElem?_drop] at h8
  rw [hk] at h8
  simpa using h8
 have cell : ∀ i, i < 20 → W.cell? ⟨2, i, none⟩ = some (.int .u64 ((10 ^ i : Nat) : Int)) := by
  intro i hi
  rw [World.var?_cell h1 h3 i, ← key i hi]
  simp
 intro e hem
 simp only [layT, List.mem_singleton] at hem
 subst hem
 refine ⟨World.block_lt_of_cell? _ _ (cell 0 (by decide)), fun _ => rfl, fun i hi => ?_⟩
 have hi' : i < 20 := by simpa using hi
 have := cell i hi'
 show W.cell? ⟨2, 0 + i, none⟩ = _
 rw [Nat.zero_add, this]
 simp
theorem layK_pow {m : Nat} {F : Value → Prop} (hm : m < 20) : layK 2 m F = F (.int .u64 ((10 ^ m : Nat) : Int)) := by
 unfold layK layAt layT
 simp [List.find?, hm, oneC]
end Go.Proofs.YtpkfddfkacijoaaGreatDoor
