/- Proved for every input: sums, products and quotients of fractions are those of a field, and keep its order. -/
import Derived.Test.YthlndppcjcjmlaaDoorRows
import Derived.Test.YthlndppcjcjmlaaDoorQe
import Derived.Test.YthlndppcjcjmlaaDoorE6
import Derived.Test.YthlndppcjcjmlaaDoorYa
import Derived.Test.YthlndppcjcjmlaaDoorCards
import Derived.Test.YthlndppcjcjmlaaDoorTie
import Derived.SevenTiedAt
import Derived.LaidMore
import Derived.LaidLaws
import Derived.LaidHandle
import Derived.Lay
import Derived.MakeChecks
import Derived.WalkKit
import Derived.ProofKit
import Derived.OpenShut
import Derived.ShutString
import Derived.ChangeOld
import Derived.Below
import Derived.Carry
namespace Go.Proofs.YthlndppcjcjmlaaDoor.ratField
open Go.ChangeShapes Go.WideShapes Go.ChangeAt Go.RowKit Go.Eng Go.Vx
set_option linter.unusedVariables false

theorem own : ownKnob Tryd.prog.godebug = none := by kernel_rfl
theorem laidOut : laidOutB Tryd.prog = true := by kernel_rfl

theorem walk (d0 : ((List Int) × ((List Int) × (Bool × Unit)))) (o0 : okD (Sh.cons (Sh.row (Sh.int .u64)) (Sh.cons (Sh.row (Sh.int .u64)) (Sh.cons Sh.bool Sh.nil))) d0) (d1 : ((List Int) × ((List Int) × (Bool × Unit)))) (o1 : okD (Sh.cons (Sh.row (Sh.int .u64)) (Sh.cons (Sh.row (Sh.int .u64)) (Sh.cons Sh.bool Sh.nil))) d1) (d2 : ((List Int) × ((List Int) × (Bool × Unit)))) (o2 : okD (Sh.cons (Sh.row (Sh.int .u64)) (Sh.cons (Sh.row (Sh.int .u64)) (Sh.cons Sh.bool Sh.nil))) d2) : Fn1 Tryd.prog 4 [vOf (Sh.cons (Sh.row (Sh.int .u64)) (Sh.cons (Sh.row (Sh.int .u64)) (Sh.cons Sh.bool Sh.nil))) d0, vOf (Sh.cons (Sh.row (Sh.int .u64)) (Sh.cons (Sh.row (Sh.int .u64)) (Sh.cons Sh.bool Sh.nil))) d1, vOf (Sh.cons (Sh.row (Sh.int .u64)) (Sh.cons (Sh.row (Sh.int .u64)) (Sh.cons Sh.bool Sh.nil))) d2] [] (.lit (.bool true)) [] := by
  obtain ⟨A0, B0, b0, ⟨⟩⟩ := d0
  obtain ⟨⟨hl0, hL0⟩, ⟨hm0, hM0⟩, -, -⟩ := o0
  unfold maxLen at hl0 hm0
  obtain ⟨W0, rfl, h0⟩ := ws_nat (l := A0) (fun x hx => ⟨(hL0 x hx).1, (hL0 x hx).2⟩)
  have l0 : W0.length ≤ 9223372036854775807 := Nat.le_trans (Nat.le_of_eq (nl_len W0).symm) (Nat.le_trans hl0 (by decide))
  obtain ⟨V0, rfl, g0⟩ := ws_nat (l := B0) (fun x hx => ⟨(hM0 x hx).1, (hM0 x hx).2⟩)
  have k0 : V0.length ≤ 9223372036854775807 := Nat.le_trans (Nat.le_of_eq (nl_len V0).symm) (Nat.le_trans hm0 (by decide))
  obtain ⟨A1, B1, b1, ⟨⟩⟩ := d1
  obtain ⟨⟨hl1, hL1⟩, ⟨hm1, hM1⟩, -, -⟩ := o1
  unfold maxLen at hl1 hm1
  obtain ⟨W1, rfl, h1⟩ := ws_nat (l := A1) (fun x hx => ⟨(hL1 x hx).1, (hL1 x hx).2⟩)
  have l1 : W1.length ≤ 9223372036854775807 := Nat.le_trans (Nat.le_of_eq (nl_len W1).symm) (Nat.le_trans hl1 (by decide))
  obtain ⟨V1, rfl, g1⟩ := ws_nat (l := B1) (fun x hx => ⟨(hM1 x hx).1, (hM1 x hx).2⟩)
  have k1 : V1.length ≤ 9223372036854775807 := Nat.le_trans (Nat.le_of_eq (nl_len V1).symm) (Nat.le_trans hm1 (by decide))
  obtain ⟨A2, B2, b2, ⟨⟩⟩ := d2
  obtain ⟨⟨hl2, hL2⟩, ⟨hm2, hM2⟩, -, -⟩ := o2
  unfold maxLen at hl2 hm2
  obtain ⟨W2, rfl, h2⟩ := ws_nat (l := A2) (fun x hx => ⟨(hL2 x hx).1, (hL2 x hx).2⟩)
  have l2 : W2.length ≤ 9223372036854775807 := Nat.le_trans (Nat.le_of_eq (nl_len W2).symm) (Nat.le_trans hl2 (by decide))
  obtain ⟨V2, rfl, g2⟩ := ws_nat (l := B2) (fun x hx => ⟨(hM2 x hx).1, (hM2 x hx).2⟩)
  have k2 : V2.length ≤ 9223372036854775807 := Nat.le_trans (Nat.le_of_eq (nl_len V2).symm) (Nat.le_trans hm2 (by decide))
  exact ratField_fn (b := b0) (c := b1) (d := b2) h0 l0 g0 k0 h1 l1 g1 k1 h2 l2 g2 k2

set_option maxRecDepth 100000 in
theorem met (os : Os) (args : Array Value) : laidMetH Tryd.prog Rows.ratFieldRow.laid ((World.doorLaid Tryd.prog 24 os).forCall (fun _ _ => 0) ⟨#[], args, []⟩).memory :=
  laidMetH_of_parts3 (fuel := 8) (laidMet_of_run' 8 (by kernel_rfl) (by kernel_rfl)) (by kernel_rfl) (by kernel_rfl)

set_option maxRecDepth 100000 in
theorem lifted (os : Os) (started : os.Started) (H : Type) (enc : TypeId × Value → H) :
    ReturnsInHanded {} Tryd.checked os 4 .any (fun w args => (Rows.ratFieldSpec.pre enc Tryd.prog Tryd.f4 [] false w args ∧ laidMetH Tryd.prog Rows.ratFieldRow.laid w) ∧ sizedMet enc Tryd.prog Tryd.f4 (OpenSpec.ofChange Rows.ratFieldSpec) false w args) (Rows.ratFieldSpec.post enc Tryd.prog Tryd.f4 false true false false) := by
  refine returnsInHanded_of_change_and (C := Tryd.checked) (X := fun w _ => laidMetH Tryd.prog Rows.ratFieldRow.laid w) (fun _ _ _ hh h => h.of_heap hh) own started (by kernel_rfl) Tryd.func4
    (ChangeSpec.witness_shaped (enc := enc) (C := Tryd.checked) (os := os) (X := fun w _ => laidMetH Tryd.prog Rows.ratFieldRow.laid w) false (World.doorLaid Tryd.prog 24 os) #[.agg #[.slice none 0 0, .slice none 0 0, .bool false], .agg #[.slice none 0 0, .slice none 0 0, .bool false], .agg #[.slice none 0 0, .slice none 0 0, .bool false]] 8 rfl (World.shaped_of_RefB (by kernel_rfl) (by kernel_rfl)) (by kernel_rfl) (by kernel_rfl) (by kernel_rfl) (met os _)) ?_
  intro W base args ds gs before hval0 hW _ _ hL _
  have hval : ∀ (j : Nat) t v, Tryd.f4.params[j]? = some t → args[j]? = some v → Value.okWide Tryd.prog W .any base t v := hval0
  have hW' := hW
  obtain ⟨p, q, hA0, hV, rfl, hfz, hnd⟩ := hW
  have hA : DataW.TrodAll enc Tryd.prog W 0 (fun _ => true) true Tryd.f4.params.toList args.toList ds p := hA0
  rw [Tryd.params4] at hA hval
  obtain ⟨v0, vs0, e0, es0, p0, q0, hargs, rfl, rfl, h0, r0⟩ := trodAll_cons hA
  obtain ⟨v1, vs1, e1, es1, p1, q1, rfl, rfl, rfl, h1, r1⟩ := trodAll_cons r0
  obtain ⟨v2, vs2, e2, es2, p2, q2, rfl, rfl, rfl, h2, r2⟩ := trodAll_cons r1
  obtain ⟨rfl, rfl, rfl⟩ := trodAll_nil r2
  obtain rfl : args = #[v0, v1, v2] := by cases args; simp_all
  obtain ⟨rfl, rfl⟩ := trodVars_none hV
  obtain ⟨d0, o0, g0⟩ := open_arg (n := 12) (s := (Sh.cons (Sh.row (Sh.int .u64)) (Sh.cons (Sh.row (Sh.int .u64)) (Sh.cons Sh.bool Sh.nil)))) (by kernel_rfl) h0 (hval 0 24 v0 rfl rfl)
  have lt0 : ∀ x ∈ p0, x.block < W.heap.size := by
    obtain ⟨m, hm⟩ := h0
    exact DataW.trod_lt m _ _ _ hm
  obtain ⟨d1, o1, g1⟩ := open_arg (n := 12) (s := (Sh.cons (Sh.row (Sh.int .u64)) (Sh.cons (Sh.row (Sh.int .u64)) (Sh.cons Sh.bool Sh.nil)))) (by kernel_rfl) h1 (hval 1 24 v1 rfl rfl)
  have lt1 : ∀ x ∈ p1, x.block < W.heap.size := by
    obtain ⟨m, hm⟩ := h1
    exact DataW.trod_lt m _ _ _ hm
  obtain ⟨d2, o2, g2⟩ := open_arg (n := 12) (s := (Sh.cons (Sh.row (Sh.int .u64)) (Sh.cons (Sh.row (Sh.int .u64)) (Sh.cons Sh.bool Sh.nil)))) (by kernel_rfl) h2 (hval 2 24 v2 rfl rfl)
  have lt2 : ∀ x ∈ p2, x.block < W.heap.size := by
    obtain ⟨m, hm⟩ := h2
    exact DataW.trod_lt m _ _ _ hm
  clear hA0 hval0
  refine (calls_fn (walk d0 o0 d1 o1 d2 o2) (.cons g0 (.cons g1 (.cons g2 .nil))) (lay_of (l := Rows.ratFieldRow.laid) (by kernel_rfl) (by repeat (first | exact List.mem_cons_self | apply List.mem_cons_of_mem)) hL)).mono fun e W' ⟨he, bel⟩ => ?_
  subst he
  exact ⟨_, rfl, _, _, _, [], _, [], hW', trodAll_mk1 (shut_bool Tryd.underlying4 _), (trodAll_cons_mk (Below.trod laidOut (by kernel_rfl) (of_decide_eq_true (by kernel_rfl)) h0 bel lt0) (trodAll_cons_mk (Below.trod laidOut (by kernel_rfl) (of_decide_eq_true (by kernel_rfl)) h1 bel lt1) (trodAll_cons_mk (Below.trod laidOut (by kernel_rfl) (of_decide_eq_true (by kernel_rfl)) h2 bel lt2) trodAll_mk0))), rfl, bel.frame _, fun h => by cases h⟩

theorem over : Rows.ratFieldRow.holds Tryd.pinned (OpenSpec.ofChange Rows.ratFieldSpec) :=
  OpenClaim.holds_of_wide 4 Tryd.f4 rfl rfl rfl rfl rfl rfl rfl ⟨rfl, rfl, rfl, rfl, rfl⟩ rfl rfl rfl rfl rfl (by kernel_rfl) Tryd.func4 (by kernel_rfl)
    (of_decide_eq_true (by kernel_rfl)) (by unfold Func.isWrapper; first | (rw [if_pos (by decide +kernel)]; kernel_rfl) | (rw [if_neg (by decide +kernel)]; exact ⟨rfl, rfl⟩))
    (fun os started H enc _ => lifted os started H enc)

theorem proved : Rows.RatFieldCardSaid :=
  Claim7.holds_tied_plain_at .later [] [.data, .data, .data] true (true, "4f60ae1d47d4b6f973f4b43d04f871186c2323b50019fb6c652253f24ddb2af9") false
    over (fun _ h => by cases h) (by kernel_rfl) (fun _ h => by cases h) ratField_row_tie rfl ⟨rfl, rfl⟩ (by kernel_rfl) rfl
    (fun f fn hf hfn => by
      obtain rfl : f = 4 := Option.some.inj ((show Tryd.prog.funcNamed "tallymark/tallymarklaw07.RatField" = some 4 by kernel_rfl).symm.trans hf) |>.symm
      obtain rfl : fn = Tryd.f4 := (Option.some.inj (Tryd.func4.symm.trans hfn)).symm
      exact ⟨by kernel_rfl, fun j t ht => by
        rw [Tryd.params4] at ht
        have hm : t ∈ [24, 24, 24] := by simpa using Array.mem_of_getElem? ht
        have hall : ([24, 24, 24].all fun u => !Tryd.prog.wantsStandIn u) = true := by kernel_rfl
        exact (show Tryd.prog.wantsStandIn t = false by simpa using List.all_eq_true.1 hall t hm)⟩)
    (by kernel_rfl)
#print axioms proved
end Go.Proofs.YthlndppcjcjmlaaDoor.ratField
