/- Proved for every input: the mean of two fractions lies between them, and logarithms are sums of differences. -/
import Derived.Test.YthoknpbjoeopcaaGreatDoorRows
import Derived.Test.YthoknpbjoeopcaaGreatDoorKb
import Derived.Test.YthoknpbjoeopcaaGreatDoorE6
import Derived.Test.YthoknpbjoeopcaaGreatDoorYa
import Derived.Test.YthoknpbjoeopcaaGreatDoorCards
import Derived.Test.YthoknpbjoeopcaaGreatDoorTie
import Derived.SevenTiedAt
import Derived.LaidMore
import Derived.LaidLaws
import Derived.LaidHandle
import Derived.Lay
import Derived.MakeChecks
import Derived.WalkKit
import Derived.ProofKit
import Derived.OpenShut
import Derived.ShutString
import Derived.ChangeOld
import Derived.Below
import Derived.Carry
namespace Go.Proofs.YthoknpbjoeopcaaGreatDoor.tallyFractions
open Go.ChangeShapes Go.WideShapes Go.ChangeAt Go.RowKit Go.Eng Go.Vx
set_option linter.unusedVariables false

theorem own : ownKnob Tryz.prog.godebug = none := by kernel_rfl
theorem laidOut : laidOutB Tryz.prog = true := by kernel_rfl

theorem walk (d0 : ((List Int) × ((List Int) × (Bool × Unit)))) (o0 : okD (Sh.cons (Sh.row (Sh.int .u64)) (Sh.cons (Sh.row (Sh.int .u64)) (Sh.cons Sh.bool Sh.nil))) d0) (d1 : ((List Int) × ((List Int) × (Bool × Unit)))) (o1 : okD (Sh.cons (Sh.row (Sh.int .u64)) (Sh.cons (Sh.row (Sh.int .u64)) (Sh.cons Sh.bool Sh.nil))) d1) (d2 : Int) (o2 : okD (Sh.int .i64) d2) : Fn1 Tryz.prog 4 [vOf (Sh.cons (Sh.row (Sh.int .u64)) (Sh.cons (Sh.row (Sh.int .u64)) (Sh.cons Sh.bool Sh.nil))) d0, vOf (Sh.cons (Sh.row (Sh.int .u64)) (Sh.cons (Sh.row (Sh.int .u64)) (Sh.cons Sh.bool Sh.nil))) d1, vOf (Sh.int .i64) d2] [] (.lit (.bool true)) [] := by
  obtain ⟨A0, B0, b0, ⟨⟩⟩ := d0
  obtain ⟨⟨hl0, hL0⟩, ⟨hm0, hM0⟩, -, -⟩ := o0
  unfold maxLen at hl0 hm0
  obtain ⟨W0, rfl, h0⟩ := ws_nat (l := A0) (fun x hx => ⟨(hL0 x hx).1, (hL0 x hx).2⟩)
  have l0 : W0.length ≤ 9223372036854775807 := Nat.le_trans (Nat.le_of_eq (nl_len W0).symm) (Nat.le_trans hl0 (by decide))
  obtain ⟨V0, rfl, g0⟩ := ws_nat (l := B0) (fun x hx => ⟨(hM0 x hx).1, (hM0 x hx).2⟩)
  have k0 : V0.length ≤ 9223372036854775807 := Nat.le_trans (Nat.le_of_eq (nl_len V0).symm) (Nat.le_trans hm0 (by decide))
  obtain ⟨A1, B1, b1, ⟨⟩⟩ := d1
  obtain ⟨⟨hl1, hL1⟩, ⟨hm1, hM1⟩, -, -⟩ := o1
  unfold maxLen at hl1 hm1
  obtain ⟨W1, rfl, h1⟩ := ws_nat (l := A1) (fun x hx => ⟨(hL1 x hx).1, (hL1 x hx).2⟩)
  have l1 : W1.length ≤ 9223372036854775807 := Nat.le_trans (Nat.le_of_eq (nl_len W1).symm) (Nat.le_trans hl1 (by decide))
  obtain ⟨V1, rfl, g1⟩ := ws_nat (l := B1) (fun x hx => ⟨(hM1 x hx).1, (hM1 x hx).2⟩)
  have k1 : V1.length ≤ 9223372036854775807 := Nat.le_trans (Nat.le_of_eq (nl_len V1).symm) (Nat.le_trans hm1 (by decide))
  exact tallyFractions_fn (b := b0) (c := b1) h0 l0 g0 k0 h1 l1 g1 k1 o2.1 o2.2

set_option maxRecDepth 100000 in
theorem met (os : Os) (args : Array Value) : laidMetH Tryz.prog Rows.tallyFractionsRow.laid ((World.laidAll Tryz.prog os Rows.tallyFractionsRow.laid).forCall (fun _ _ => 0) ⟨#[], args, []⟩).memory :=
  by rw [MakeChecks.laidMetH_plain _ _ _ (by kernel_rfl)]; exact laidMet_laidAll _ (by kernel_rfl) (by kernel_rfl)

set_option maxRecDepth 100000 in
theorem lifted (os : Os) (started : os.Started) (H : Type) (enc : TypeId × Value → H) :
    ReturnsInHanded {} Tryz.checked os 4 .any (fun w args => (Rows.tallyFractionsSpec.pre enc Tryz.prog Tryz.f4 [] false w args ∧ laidMetH Tryz.prog Rows.tallyFractionsRow.laid w) ∧ sizedMet enc Tryz.prog Tryz.f4 (OpenSpec.ofChange Rows.tallyFractionsSpec) false w args) (Rows.tallyFractionsSpec.post enc Tryz.prog Tryz.f4 false true false false) := by
  refine returnsInHanded_of_change_and (C := Tryz.checked) (X := fun w _ => laidMetH Tryz.prog Rows.tallyFractionsRow.laid w) (fun _ _ _ hh h => h.of_heap hh) own started (by kernel_rfl) Tryz.func4
    (ChangeSpec.witness_shaped (enc := enc) (C := Tryz.checked) (os := os) (X := fun w _ => laidMetH Tryz.prog Rows.tallyFractionsRow.laid w) false (World.laidAll Tryz.prog os Rows.tallyFractionsRow.laid) #[.agg #[.slice none 0 0, .slice none 0 0, .bool false], .agg #[.slice none 0 0, .slice none 0 0, .bool false], .int .i64 0] 8 (World.laidAll_os _ _ _) (World.shaped_of_ZipB (by kernel_rfl) (by kernel_rfl)) (by kernel_rfl) (by kernel_rfl) (by kernel_rfl) (met os _)) ?_
  intro W base args ds gs before hval0 hW _ _ hL _
  have hval : ∀ (j : Nat) t v, Tryz.f4.params[j]? = some t → args[j]? = some v → Value.okWide Tryz.prog W .any base t v := hval0
  have hW' := hW
  obtain ⟨p, q, hA0, hV, rfl, hfz, hnd⟩ := hW
  have hA : DataW.TrodAll enc Tryz.prog W 0 (fun _ => true) true Tryz.f4.params.toList args.toList ds p := hA0
  rw [Tryz.params4] at hA hval
  obtain ⟨v0, vs0, e0, es0, p0, q0, hargs, rfl, rfl, h0, r0⟩ := trodAll_cons hA
  obtain ⟨v1, vs1, e1, es1, p1, q1, rfl, rfl, rfl, h1, r1⟩ := trodAll_cons r0
  obtain ⟨v2, vs2, e2, es2, p2, q2, rfl, rfl, rfl, h2, r2⟩ := trodAll_cons r1
  obtain ⟨rfl, rfl, rfl⟩ := trodAll_nil r2
  obtain rfl : args = #[v0, v1, v2] := by cases args; simp_all
  obtain ⟨rfl, rfl⟩ := trodVars_none hV
  obtain ⟨d0, o0, g0⟩ := open_arg (n := 12) (s := (Sh.cons (Sh.row (Sh.int .u64)) (Sh.cons (Sh.row (Sh.int .u64)) (Sh.cons Sh.bool Sh.nil)))) (by kernel_rfl) h0 (hval 0 49 v0 rfl rfl)
  have lt0 : ∀ x ∈ p0, x.block < W.heap.size := by
    obtain ⟨m, hm⟩ := h0
    exact DataW.trod_lt m _ _ _ hm
  obtain ⟨d1, o1, g1⟩ := open_arg (n := 12) (s := (Sh.cons (Sh.row (Sh.int .u64)) (Sh.cons (Sh.row (Sh.int .u64)) (Sh.cons Sh.bool Sh.nil)))) (by kernel_rfl) h1 (hval 1 49 v1 rfl rfl)
  have lt1 : ∀ x ∈ p1, x.block < W.heap.size := by
    obtain ⟨m, hm⟩ := h1
    exact DataW.trod_lt m _ _ _ hm
  obtain ⟨d2, o2, g2⟩ := open_arg (n := 12) (s := (Sh.int .i64)) (by kernel_rfl) h2 (hval 2 3 v2 rfl rfl)
  have lt2 : ∀ x ∈ p2, x.block < W.heap.size := by
    obtain ⟨m, hm⟩ := h2
    exact DataW.trod_lt m _ _ _ hm
  clear hA0 hval0
  refine (calls_fn (walk d0 o0 d1 o1 d2 o2) (.cons g0 (.cons g1 (.cons g2 .nil))) (lay_of (l := Rows.tallyFractionsRow.laid) (by kernel_rfl) (by repeat (first | exact List.mem_cons_self | apply List.mem_cons_of_mem)) hL)).mono fun e W' ⟨he, bel⟩ => ?_
  subst he
  exact ⟨_, rfl, _, _, _, [], _, [], hW', trodAll_mk1 (shut_bool Tryz.underlying4 _), (trodAll_cons_mk (Below.trod laidOut (by kernel_rfl) (of_decide_eq_true (by kernel_rfl)) h0 bel lt0) (trodAll_cons_mk (Below.trod laidOut (by kernel_rfl) (of_decide_eq_true (by kernel_rfl)) h1 bel lt1) (trodAll_cons_mk (Below.trod laidOut (by kernel_rfl) (of_decide_eq_true (by kernel_rfl)) h2 bel lt2) trodAll_mk0))), rfl, bel.frame _, fun h => by cases h⟩

theorem over : Rows.tallyFractionsRow.holds Tryz.pinned (OpenSpec.ofChange Rows.tallyFractionsSpec) :=
  OpenClaim.holds_of_wide 4 Tryz.f4 rfl rfl rfl rfl rfl rfl rfl ⟨rfl, rfl, rfl, rfl, rfl⟩ rfl rfl rfl rfl rfl (by kernel_rfl) Tryz.func4 (by kernel_rfl)
    (of_decide_eq_true (by kernel_rfl)) (by unfold Func.isWrapper; first | (rw [if_pos (by decide +kernel)]; kernel_rfl) | (rw [if_neg (by decide +kernel)]; exact ⟨rfl, rfl⟩))
    (fun os started H enc _ => lifted os started H enc)

theorem proved : Rows.TallyFractionsCardSaid :=
  Claim7.holds_tied_plain_at .later [] [.data, .data, .data, .data, .sentinel, .sentinel, .pinned] true (true, "f06566cb8c351e744aa57822a2518150949fdeb942b8e3e7932f88d54e97de7e") true
    over (fun _ h => by cases h) (by kernel_rfl) (fun _ h => by cases h) tallyFractions_row_tie rfl ⟨rfl, rfl⟩ (by kernel_rfl) rfl
    (fun f fn hf hfn => by
      obtain rfl : f = 4 := Option.some.inj ((show Tryz.prog.funcNamed "tallymark/tallymarktop.TallyFractions" = some 4 by kernel_rfl).symm.trans hf) |>.symm
      obtain rfl : fn = Tryz.f4 := (Option.some.inj (Tryz.func4.symm.trans hfn)).symm
      exact ⟨by kernel_rfl, fun j t ht => by
        rw [Tryz.params4] at ht
        have hm : t ∈ [49, 49, 3] := by simpa using Array.mem_of_getElem? ht
        have hall : ([49, 49, 3].all fun u => !Tryz.prog.wantsStandIn u) = true := by kernel_rfl
        exact (show Tryz.prog.wantsStandIn t = false by simpa using List.all_eq_true.1 hall t hm)⟩)
    (by kernel_rfl)
#print axioms proved
end Go.Proofs.YthoknpbjoeopcaaGreatDoor.tallyFractions
