/- Proved for every input: keys are counted in cells by their sums, exactly while nothing is rounded. -/
import Derived.Test.YtpkfddfkacijoaaRows
import Derived.Test.YtpkfddfkacijoaaOf
import Derived.Test.YtpkfddfkacijoaaE6
import Derived.WalkKit
import Derived.ProofKit
import Derived.OpenShut
import Derived.ShutString
import Derived.ChangeOld
import Derived.Below
import Derived.Carry
namespace Go.Proofs.Ytpkfddfkacijoaa.tallyShared
open Go.ChangeShapes Go.WideShapes Go.ChangeAt Go.RowKit Go.Eng Go.Vx
set_option linter.unusedVariables false

theorem own : ownKnob Try.prog.godebug = none := by kernel_rfl
theorem laidOut : laidOutB Try.prog = true := by kernel_rfl

theorem walk (d0 : (List Int)) (o0 : okD (Sh.row (Sh.int .u64)) d0) (d1 : (Int × (Int × Unit))) (o1 : okD (Sh.cons (Sh.int .u64) (Sh.cons (Sh.int .u64) Sh.nil)) d1) (d2 : (List Bool)) (o2 : okD (Sh.row Sh.bool) d2) : Fn1 Try.prog 4 [vOf (Sh.row (Sh.int .u64)) d0, vOf (Sh.cons (Sh.int .u64) (Sh.cons (Sh.int .u64) Sh.nil)) d1, vOf (Sh.row Sh.bool) d2] [] (.lit (.bool true)) [] := by
  obtain ⟨hl0, hL0⟩ := o0
  obtain ⟨a, b, ⟨⟩⟩ := d1
  obtain ⟨ha, hb, -⟩ := o1
  obtain ⟨hl2, -⟩ := o2
  unfold maxLen at hl0 hl2
  have ha1 : 0 ≤ a := ha.1
  have ha2 : a ≤ 18446744073709551615 := ha.2
  have hb1 : 0 ≤ b := hb.1
  have hb2 : b ≤ 18446744073709551615 := hb.2
  obtain ⟨a, rfl⟩ := Int.eq_ofNat_of_zero_le ha1
  obtain ⟨b, rfl⟩ := Int.eq_ofNat_of_zero_le hb1
  obtain ⟨W, rfl, h0⟩ := ws_nat (l := d0) (fun x hx => ⟨(hL0 x hx).1, (hL0 x hx).2⟩)
  have l0 : W.length ≤ 9223372036854775807 := Nat.le_trans (Nat.le_of_eq (nl_len W).symm) (Nat.le_trans hl0 (by decide))
  exact tallyShared_fn (W := W) (a := a) (b := b) (L0 := d2) l0 h0 (by omega) (by omega) hl2

set_option maxRecDepth 100000 in
theorem lifted (os : Os) (started : os.Started) (H : Type) (enc : TypeId × Value → H) :
    ReturnsInHanded {} Try.checked os 4 .any (Rows.tallySharedSpec.pre6 enc Try.prog Try.f4 Rows.tallySharedRow.domain false) (Rows.tallySharedSpec.post enc Try.prog Try.f4 false true false false) := by
  refine returnsInHanded_of_change (C := Try.checked) own started (by kernel_rfl) Try.func4
    (ChangeSpec.witness6 (enc := enc) (C := Try.checked) false ⟨#[], #[.slice none 0 0, .agg #[.int .u64 0, .int .u64 0], .slice none 0 0], []⟩ 8 (by kernel_rfl) (by kernel_rfl) (by kernel_rfl) (by kernel_rfl)) ?_
  intro W base args ds gs before hval0 hW hcnd _
  have hval : ∀ (j : Nat) t v, Try.f4.params[j]? = some t → args[j]? = some v → Value.okWide Try.prog W .any base t v := hval0
  have hW' := hW
  obtain ⟨p, q, hA0, hV, rfl, hfz, hnd⟩ := hW
  have hA : DataW.TrodAll enc Try.prog W 0 (fun _ => true) true Try.f4.params.toList args.toList ds p := hA0
  rw [Try.params4] at hA hval
  obtain ⟨v0, vs0, e0, es0, p0, q0, hargs, rfl, rfl, h0, r0⟩ := trodAll_cons hA
  obtain ⟨v1, vs1, e1, es1, p1, q1, rfl, rfl, rfl, h1, r1⟩ := trodAll_cons r0
  obtain ⟨v2, vs2, e2, es2, p2, q2, rfl, rfl, rfl, h2, r2⟩ := trodAll_cons r1
  obtain ⟨rfl, rfl, rfl⟩ := trodAll_nil r2
  obtain rfl : args = #[v0, v1, v2] := by cases args; simp_all
  obtain ⟨rfl, rfl⟩ := trodVars_none hV
  obtain ⟨d0, o0, g0⟩ := open_arg (n := 12) (s := (Sh.row (Sh.int .u64))) (by kernel_rfl) h0 (hval 0 22 v0 rfl rfl)
  have lt0 : ∀ x ∈ p0, x.block < W.heap.size := by
    obtain ⟨m, hm⟩ := h0
    exact DataW.trod_lt m _ _ _ hm
  obtain ⟨d1, o1, g1⟩ := open_arg (n := 12) (s := (Sh.cons (Sh.int .u64) (Sh.cons (Sh.int .u64) Sh.nil))) (by kernel_rfl) h1 (hval 1 50 v1 rfl rfl)
  have lt1 : ∀ x ∈ p1, x.block < W.heap.size := by
    obtain ⟨m, hm⟩ := h1
    exact DataW.trod_lt m _ _ _ hm
  obtain ⟨d2, o2, g2⟩ := open_arg (n := 12) (s := (Sh.row Sh.bool)) (by kernel_rfl) h2 (hval 2 33 v2 rfl rfl)
  have lt2 : ∀ x ∈ p2, x.block < W.heap.size := by
    obtain ⟨m, hm⟩ := h2
    exact DataW.trod_lt m _ _ _ hm
  clear hA0 hval0
  refine (calls_fn (walk d0 o0 d1 o1 d2 o2) (.cons g0 (.cons g1 (.cons g2 .nil)))).mono fun e W' ⟨he, bel⟩ => ?_
  subst he
  exact ⟨_, rfl, _, _, _, [], _, [], hW', trodAll_mk1 (shut_bool Try.underlying4 _), (trodAll_cons_mk (Below.trod laidOut (by kernel_rfl) (of_decide_eq_true (by kernel_rfl)) h0 bel lt0) (trodAll_cons_mk (Below.trod laidOut (by kernel_rfl) (of_decide_eq_true (by kernel_rfl)) h1 bel lt1) (trodAll_cons_mk (Below.trod laidOut (by kernel_rfl) (of_decide_eq_true (by kernel_rfl)) h2 bel lt2) trodAll_mk0))), rfl, bel.frame _, fun h => by cases h⟩

theorem over : Rows.tallySharedRow.holds Try.pinned (OpenSpec.ofChange Rows.tallySharedSpec) :=
  OpenClaim.holds_of_wide 4 Try.f4 rfl rfl rfl rfl rfl rfl rfl ⟨rfl, rfl, rfl, rfl, rfl⟩ rfl rfl rfl rfl rfl (by kernel_rfl) Try.func4 (by kernel_rfl)
    (of_decide_eq_true (by kernel_rfl)) (by unfold Func.isWrapper; first | (rw [if_pos (by decide +kernel)]; kernel_rfl) | (rw [if_neg (by decide +kernel)]; exact ⟨rfl, rfl⟩))
    (fun os started H enc _ => lifted os started H enc)

theorem proved : Rows.TallySharedSaid := over
#print axioms proved
end Go.Proofs.Ytpkfddfkacijoaa.tallyShared
