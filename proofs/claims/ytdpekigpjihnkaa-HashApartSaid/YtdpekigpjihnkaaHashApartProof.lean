/- HashApart holds of every two sums of two words. -/
import Derived.Test.YtdpekigpjihnkaaRows
import Derived.Test.YtdpekigpjihnkaaRg
import Derived.Test.YtdpekigpjihnkaaE6
import Derived.WalkKit
import Derived.ProofKit
import Derived.OpenShut
import Derived.ShutString
import Derived.ChangeOld
import Derived.Below
import Derived.Carry
namespace Go.Proofs.Ytdpekigpjihnkaa.hashApart
open Go.ChangeShapes Go.WideShapes Go.ChangeAt Go.RowKit Go.Eng Go.Vx
set_option linter.unusedVariables false

theorem own : ownKnob Try.prog.godebug = none := by kernel_rfl
theorem laidOut : laidOutB Try.prog = true := by kernel_rfl

theorem walk (d0 : (Int × (Int × Unit))) (o0 : okD (Sh.cons (Sh.int .u64) (Sh.cons (Sh.int .u64) Sh.nil)) d0) (d1 : (Int × (Int × Unit))) (o1 : okD (Sh.cons (Sh.int .u64) (Sh.cons (Sh.int .u64) Sh.nil)) d1) : Fn1 Try.prog 4 [vOf (Sh.cons (Sh.int .u64) (Sh.cons (Sh.int .u64) Sh.nil)) d0, vOf (Sh.cons (Sh.int .u64) (Sh.cons (Sh.int .u64) Sh.nil)) d1] [] (.lit (.bool true)) [] := by
  obtain ⟨x, y, u⟩ := d0
  obtain ⟨a, rfl, la⟩ := u64_of (n := x) o0.1
  obtain ⟨b, rfl, lb⟩ := u64_of (n := y) o0.2.1
  obtain ⟨z, w, u'⟩ := d1
  obtain ⟨c, rfl, lc⟩ := u64_of (n := z) o1.1
  obtain ⟨d, rfl, ld⟩ := u64_of (n := w) o1.2.1
  exact hashApart_fn la lb lc ld

set_option maxRecDepth 100000 in
theorem lifted (os : Os) (started : os.Started) (H : Type) (enc : TypeId × Value → H) :
    ReturnsInHanded {} Try.checked os 4 .any (Rows.hashApartSpec.pre6 enc Try.prog Try.f4 Rows.hashApartRow.domain false) (Rows.hashApartSpec.post enc Try.prog Try.f4 false true false false) := by
  refine returnsInHanded_of_change (C := Try.checked) own started (by kernel_rfl) Try.func4
    (ChangeSpec.witness6 (enc := enc) (C := Try.checked) false ⟨#[], #[.agg #[.int .u64 0, .int .u64 0], .agg #[.int .u64 0, .int .u64 0]], []⟩ 8 (by kernel_rfl) (by kernel_rfl) (by kernel_rfl) (by kernel_rfl)) ?_
  intro W base args ds gs before hval0 hW hcnd _
  have hval : ∀ (j : Nat) t v, Try.f4.params[j]? = some t → args[j]? = some v → Value.okWide Try.prog W .any base t v := hval0
  have hW' := hW
  obtain ⟨p, q, hA0, hV, rfl, hfz, hnd⟩ := hW
  have hA : DataW.TrodAll enc Try.prog W 0 (fun _ => true) true Try.f4.params.toList args.toList ds p := hA0
  rw [Try.params4] at hA hval
  obtain ⟨v0, vs0, e0, es0, p0, q0, hargs, rfl, rfl, h0, r0⟩ := trodAll_cons hA
  obtain ⟨v1, vs1, e1, es1, p1, q1, rfl, rfl, rfl, h1, r1⟩ := trodAll_cons r0
  obtain ⟨rfl, rfl, rfl⟩ := trodAll_nil r1
  obtain rfl : args = #[v0, v1] := by cases args; simp_all
  obtain ⟨rfl, rfl⟩ := trodVars_none hV
  obtain ⟨d0, o0, g0⟩ := open_arg (n := 12) (s := (Sh.cons (Sh.int .u64) (Sh.cons (Sh.int .u64) Sh.nil))) (by kernel_rfl) h0 (hval 0 23 v0 rfl rfl)
  have lt0 : ∀ x ∈ p0, x.block < W.heap.size := by
    obtain ⟨m, hm⟩ := h0
    exact DataW.trod_lt m _ _ _ hm
  obtain ⟨d1, o1, g1⟩ := open_arg (n := 12) (s := (Sh.cons (Sh.int .u64) (Sh.cons (Sh.int .u64) Sh.nil))) (by kernel_rfl) h1 (hval 1 23 v1 rfl rfl)
  have lt1 : ∀ x ∈ p1, x.block < W.heap.size := by
    obtain ⟨m, hm⟩ := h1
    exact DataW.trod_lt m _ _ _ hm
  clear hA0 hval0
  refine (calls_fn (walk d0 o0 d1 o1) (.cons g0 (.cons g1 .nil))).mono fun e W' ⟨he, bel⟩ => ?_
  subst he
  exact ⟨_, rfl, _, _, _, [], _, [], hW', trodAll_mk1 (shut_bool Try.underlying4 _), (trodAll_cons_mk (Below.trod laidOut (by kernel_rfl) (of_decide_eq_true (by kernel_rfl)) h0 bel lt0) (trodAll_cons_mk (Below.trod laidOut (by kernel_rfl) (of_decide_eq_true (by kernel_rfl)) h1 bel lt1) trodAll_mk0)), rfl, bel.frame _, fun h => by cases h⟩

theorem over : Rows.hashApartRow.holds Try.pinned (OpenSpec.ofChange Rows.hashApartSpec) :=
  OpenClaim.holds_of_wide 4 Try.f4 rfl rfl rfl rfl rfl rfl rfl ⟨rfl, rfl, rfl, rfl, rfl⟩ rfl rfl rfl rfl rfl (by kernel_rfl) Try.func4 (by kernel_rfl)
    (of_decide_eq_true (by kernel_rfl)) (by unfold Func.isWrapper; first | (rw [if_pos (by decide +kernel)]; kernel_rfl) | (rw [if_neg (by decide +kernel)]; exact ⟨rfl, rfl⟩))
    (fun os started H enc _ => lifted os started H enc)

theorem proved : Rows.HashApartSaid := over
#print axioms proved
end Go.Proofs.Ytdpekigpjihnkaa.hashApart
