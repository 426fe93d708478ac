import Derived.Test.YtpkfddfkacijoaaDoorE6
import Derived.Test.YtpkfddfkacijoaaDoorRows
import Derived.OpenShut
import Derived.MakeChecks
import Derived.FnData
namespace Go.Proofs.YtpkfddfkacijoaaDoor
open Go.Eng Go.Vx Go.ChangeShapes
set_option linter.unusedSimpArgs false
set_option linter.unusedVariables false
set_option maxRecDepth 100000
theorem laidVars_mem {P : Program} {w : World} : ∀ {l : List (String × DataW Unit)} {ps : List MemPlace}, DataW.LaidVars P w l ps → ∀ {n : String} {d : DataW Unit}, (n, d) ∈ l →
    ∃ g t cs fuel p, P.globalNamed n = some g ∧ (P.globals[g]?).map (·.type) = some t ∧ w.var? P n = some cs ∧ DataW.trod (fun _ => ()) P w 0 (fun _ => true) false fuel t cs.toList = some (d, p)
  | [], _, _, _, _, h => by simp at h
  | (m, e) :: r, ps, h, n, d, hm => by
    obtain ⟨g, t, cs, fuel, p, q, h1, h2, h3, h4, h5, _⟩ := h
    rcases List.mem_cons.1 hm with e' | h'
    · cases e'
      exact ⟨g, t, cs, fuel, p, h1, h2, h3, h4⟩
    · exact laidVars_mem h5 h'
def pow10D : DataW Unit := .agg ((List.range 20).map fun i => .lit (.int .u64 ((10 ^ i : Nat) : Int)))
theorem lay_of {W : World} {l : List (String × DataW Unit)} (hpl : (l.all fun x => x.2.handleName?.isNone) = true) (hm : ("internal/strconv.uint64pow10", pow10D) ∈ l) (hL : laidMetH Tryd.prog l W) : LayOk W (fun b => b < W.heap.size) := by
  rw [MakeChecks.laidMetH_plain _ _ _ hpl] at hL
  obtain ⟨ps, hv, _⟩ := hL
  obtain ⟨g, t, cs, fuel, p, h1, h2, h3, h4⟩ := laidVars_mem hv hm
  obtain rfl := Option.some.inj ((show Tryd.prog.globalNamed "internal/strconv.uint64pow10" = some 2 by kernel_rfl).symm.trans h1)
  obtain rfl := Option.some.inj ((show (Tryd.prog.globals[2]?).map (·.type) = some 133 by kernel_rfl).symm.trans h2)
  have hu : Tryd.prog.underlying 133 = some (.array 20 44) := by kernel_rfl
  have he : Tryd.prog.underlying 44 = some (.int .u64) := by kernel_rfl
  have hc : Tryd.prog.cellsOf 44 = 1 := by kernel_rfl
  have hct : Tryd.prog.cellsOf 133 = 20 := by kernel_rfl
  obtain ⟨xs, m, _, hx, hlen, hn, hel⟩ := DataW.trod_array hu h4
  rw [hct] at hlen
  simp only [Prod.mk.injEq] at hx
  have hxs : xs.map (·.1) = (List.range 20).map fun i => (DataW.lit (.int .u64 ((10 ^ i : Nat) : Int)) : DataW Unit) := by
    have := hx.1
    unfold pow10D at this
    simpa using this.symm
  have key : ∀ i, i < 20 → cs.toList[i]? = some (.int .u64 ((10 ^ i : Nat) : Int)) := by
    intro i hi
    have h5 := hel i hi
    rw [hc, Nat.mul_one] at h5
    have hxi : xs[i]? = some (xs[i]'(by omega)) := List.getElem?_eq_getElem _
    rw [hxi] at h5
    obtain ⟨k, e1, e2, _⟩ := DataW.trod_int he h5
    have h6 : (xs.map (·.1))[i]? = some (DataW.lit (.int .u64 ((10 ^ i : Nat) : Int))) := by
      rw [hxs, List.getElem?_map, List.getElem?_range hi]; rfl
    rw [List.getElem?_map, hxi, Option.map_some] at h6
    have h7 := Option.some.inj h6
    rw [e2] at h7
    have hk : k = ((10 ^ i : Nat) : Int) := by
      injection h7 with h8
      injection h8
    have h8 := congrArg (fun l => l[0]?) e1
    simp only [List.getElem?_take, List.getElem?_drop] at h8
    rw [hk] at h8
    simpa using h8
  have cell : ∀ i, i < 20 → W.cell? ⟨2, i, none⟩ = some (.int .u64 ((10 ^ i : Nat) : Int)) := by
    intro i hi
    rw [World.var?_cell h1 h3 i, ← key i hi]
    simp
  intro e hem
  simp only [layT, List.mem_singleton] at hem
  subst hem
  refine ⟨World.block_lt_of_cell? _ _ (cell 0 (by decide)), fun _ => rfl, fun i hi => ?_⟩
  have hi' : i < 20 := by simpa using hi
  have := cell i hi'
  show W.cell? ⟨2, 0 + i, none⟩ = _
  rw [Nat.zero_add, this]
  simp
theorem layK_pow {m : Nat} {F : Value → Prop} (hm : m < 20) : layK 2 m F = F (.int .u64 ((10 ^ m : Nat) : Int)) := by
  unfold layK layAt layT
  simp [List.find?, hm, oneC]
end Go.Proofs.YtpkfddfkacijoaaDoor
