import Derived.Test.YtpkfddfkacijoaaGreatDoorE6
import Derived.Test.YtpkfddfkacijoaaGreatDoorRows
import Derived.OpenShut
import Derived.MakeChecks
import Derived.FnData
import Derived.Test.YtpkfddfkacijoaaGreatDoorFb
import Derived.Test.YtpkfddfkacijoaaGreatDoorFa
namespace Go.Proofs.YtpkfddfkacijoaaGreatDoor
open Go.Eng Go.Vx Go.ChangeShapes
set_option linter.unusedSimpArgs false
set_option linter.unusedVariables false
set_option maxRecDepth 100000
theorem laidVars_mem {P : Program} {w : World} : ∀ {l : List (String × DataW Unit)} {ps : List MemPlace}, DataW.LaidVars P w l ps → ∀ {n : String} {d : DataW Unit}, (n, d) ∈ l →
    ∃ g t cs fuel p, P.globalNamed n = some g ∧ (P.globals[g]?).map (·.type) = some t ∧ w.var? P n = some cs ∧ DataW.trod (fun _ => ()) P w 0 (fun _ => true) false fuel t cs.toList = some (d, p)
  | [], _, _, _, _, h => by simp at h
  | (m, e) :: r, ps, h, n, d, hm => by
    obtain ⟨g, t, cs, fuel, p, q, h1, h2, h3, h4, h5, _⟩ := h
    rcases List.mem_cons.1 hm with e' | h'
    · cases e'
      exact ⟨g, t, cs, fuel, p, h1, h2, h3, h4⟩
    · exact laidVars_mem h5 h'
def pow10D : DataW Unit := .agg ((List.range 20).map fun i => .lit (.int .u64 ((10 ^ i : Nat) : Int)))
theorem lay_of {W : World} {l : List (String × DataW Unit)} (hpl : (l.all fun x => x.2.handleName?.isNone) = true) (hm : ("internal/strconv.uint64pow10", pow10D) ∈ l) (hL : laidMetH Tryz.prog l W) : LayOk W (fun b => b < W.heap.size) := by
  rw [MakeChecks.laidMetH_plain _ _ _ hpl] at hL
  obtain ⟨ps, hv, _⟩ := hL
  obtain ⟨g, t, cs, fuel, p, h1, h2, h3, h4⟩ := laidVars_mem hv hm
  obtain rfl := Option.some.inj ((show Tryz.prog.globalNamed "internal/strconv.uint64pow10" = some 2 by kernel_rfl).symm.trans h1)
  obtain rfl := Option.some.inj ((show (Tryz.prog.globals[2]?).map (·.type) = some 232 by kernel_rfl).symm.trans h2)
  have hu : Tryz.prog.underlying 232 = some (.array 20 50) := by kernel_rfl
  have he : Tryz.prog.underlying 50 = some (.int .u64) := by kernel_rfl
  have hc : Tryz.prog.cellsOf 50 = 1 := by kernel_rfl
  have hct : Tryz.prog.cellsOf 232 = 20 := by kernel_rfl
  obtain ⟨xs, m, _, hx, hlen, hn, hel⟩ := DataW.trod_array hu h4
  rw [hct] at hlen
  simp only [Prod.mk.injEq] at hx
  have hxs : xs.map (·.1) = (List.range 20).map fun i => (DataW.lit (.int .u64 ((10 ^ i : Nat) : Int)) : DataW Unit) := by
    have := hx.1
    unfold pow10D at this
    simpa using this.symm
  have key : ∀ i, i < 20 → cs.toList[i]? = some (.int .u64 ((10 ^ i : Nat) : Int)) := by
    intro i hi
    have h5 := hel i hi
    rw [hc, Nat.mul_one] at h5
    have hxi : xs[i]? = some (xs[i]'(by omega)) := List.getElem?_eq_getElem _
    rw [hxi] at h5
    obtain ⟨k, e1, e2, _⟩ := DataW.trod_int he h5
    have h6 : (xs.map (·.1))[i]? = some (DataW.lit (.int .u64 ((10 ^ i : Nat) : Int))) := by
      rw [hxs, List.getElem?_map, List.getElem?_range hi]; rfl
    rw [List.getElem?_map, hxi, Option.map_some] at h6
    have h7 := Option.some.inj h6
    rw [e2] at h7
    have hk : k = ((10 ^ i : Nat) : Int) := by
      injection h7 with h8
      injection h8
    have h8 := congrArg (fun l => l[0]?) e1
    simp only [List.getElem?_take, List.getElem?_drop] at h8
    rw [hk] at h8
    simpa using h8
  have cell : ∀ i, i < 20 → W.cell? ⟨2, i, none⟩ = some (.int .u64 ((10 ^ i : Nat) : Int)) := by
    intro i hi
    rw [World.var?_cell h1 h3 i, ← key i hi]
    simp
  intro e hem
  simp only [layT, List.mem_singleton] at hem
  subst hem
  refine ⟨World.block_lt_of_cell? _ _ (cell 0 (by decide)), fun _ => rfl, fun i hi => ?_⟩
  have hi' : i < 20 := by simpa using hi
  have := cell i hi'
  show W.cell? ⟨2, 0 + i, none⟩ = _
  rw [Nat.zero_add, this]
  simp
theorem layK_pow {m : Nat} {F : Value → Prop} (hm : m < 20) : layK 2 m F = F (.int .u64 ((10 ^ m : Nat) : Int)) := by
  unfold layK layAt layT
  simp [List.find?, hm, oneC]
end Go.Proofs.YtpkfddfkacijoaaGreatDoor

namespace Go.Proofs.YtpkfddfkacijoaaGreatDoor
open Go.Eng Go.Vx
set_option linter.unusedSimpArgs false
set_option linter.unusedVariables false
set_option maxRecDepth 100000
theorem log10_fn {x : Nat} (hx : x ≤ 64) : Fn1 Tryz.prog 167 [.lit (.int .i64 (x : Int))] [] (.lit (.int .i64 ((x * 78913 / 262144 : Nat) : Int))) [] := by
  refine fn1N_of pl167 (by kernel_rfl) Tryz.call167 Tryz.func167 rfl (by kernel_rfl) rfl [.tmp 2] (by kernel_rfl) fun Q hQ => ?_
  refine runW ?_
  exact endW [] hQ
theorem bool2_fn {b : Bool} : Fn1 Tryz.prog 168 [.lit (.bool b)] [] (.lit (.int .i64 (if b then 1 else 0))) [] := by
  refine fn1N_of pl168 (by kernel_rfl) Tryz.call168 Tryz.func168 rfl (by kernel_rfl) rfl [.tmp 2] (by kernel_rfl) fun Q hQ => ?_
  cases b
  · refine runW ?_
    exact endW [] hQ
  · refine runW ?_
    exact endW [] hQ
theorem numDigits_fn {d : Nat} (h0 : d ≠ 0) (h : d < 18446744073709551616) : Fn1 Tryz.prog 151 [.lit (.int .u64 (d : Int))] [] (.lit (.int .i64 (nd10 d : Int))) [] := by
  refine fn1N_of pl151 (by kernel_rfl) Tryz.call151 Tryz.func151 rfl (by kernel_rfl) rfl [.tmp 2] (by kernel_rfl) fun Q hQ => ?_
  obtain ⟨h1, h2⟩ := nd10_log h0 h
  have hb := bl_le_of (n := d) (k := 64) (by omega)
  have hl := log10_fn hb
  rw [h1] at hQ
  generalize bl d * 78913 / 262144 = k at *
  have hidx := fun (F : Bool → V → Prop) => idxV_lay (P := Tryz.prog) (t := 232) (len := 20) (et := 50) (m := k) (kd := .i64) (F := F) (g := 2) (by kernel_rfl) h2
  have hag : agOf Tryz.prog 50 = some none := by kernel_rfl
  refine runW ?_
  refine callV0 (len64_fn h) rfl rfl ?_
  refine runW ?_
  refine callV0 (hl) rfl rfl ?_
  simp (maxSteps := 1000000) (disch := (first | omega | (simp only [lnA, List.length_map, List.length_range, true_and, and_true]; (try omega); done) | fail)) only [go_sem, hidx, ldV_of hag, layK_pow h2, Int.reduceEq, Int.reduceToNat, Nat.reduceAdd, Nat.reduceMul, Nat.reduceEqDiff, ↓reduceIte]
  by_cases hc : 10 ^ k ≤ d
  · rw [if_pos hc] at hQ
    have hd : decide (((10 ^ k : Nat) : Int) ≤ (d : Int)) = true := decide_eq_true (by omega)
    simp (maxSteps := 1000000) (disch := (first | omega | (simp only [lnA, List.length_map, List.length_range, true_and, and_true]; (try omega); done) | fail)) only [go_sem, hd, Int.reduceEq, Int.reduceToNat, Nat.reduceAdd, Nat.reduceMul, Nat.reduceEqDiff, ↓reduceIte]
    refine callV0 (bool2_fn (b := true)) rfl rfl ?_
    refine runW ?_
    exact endW [] hQ
  · rw [if_neg hc] at hQ
    have hd : decide (((10 ^ k : Nat) : Int) ≤ (d : Int)) = false := decide_eq_false (by omega)
    simp (maxSteps := 1000000) (disch := (first | omega | (simp only [lnA, List.length_map, List.length_range, true_and, and_true]; (try omega); done) | fail)) only [go_sem, hd, Int.reduceEq, Int.reduceToNat, Nat.reduceAdd, Nat.reduceMul, Nat.reduceEqDiff, ↓reduceIte]
    refine callV0 (bool2_fn (b := false)) rfl rfl ?_
    refine runW ?_
    exact endW [] hQ
end Go.Proofs.YtpkfddfkacijoaaGreatDoor
