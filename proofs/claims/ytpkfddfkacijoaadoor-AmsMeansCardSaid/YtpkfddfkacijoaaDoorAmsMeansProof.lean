/- Proved for every input: over all tapes of coins the mean of an estimate is the sum over all keys, but for what is not done. -/
import Derived.Test.YtpkfddfkacijoaaDoorRows
import Derived.Test.YtpkfddfkacijoaaDoorAn
import Derived.Test.YtpkfddfkacijoaaDoorE6
import Derived.Test.YtpkfddfkacijoaaDoorYa
import Derived.Test.YtpkfddfkacijoaaDoorCards
import Derived.Test.YtpkfddfkacijoaaDoorTie
import Derived.SevenTiedAt
import Derived.LaidMore
import Derived.LaidLaws
import Derived.LaidHandle
import Derived.Lay
import Derived.MakeChecks
import Derived.WalkKit
import Derived.ProofKit
import Derived.OpenShut
import Derived.ShutString
import Derived.ChangeOld
import Derived.Below
import Derived.Carry
namespace Go.Proofs.YtpkfddfkacijoaaDoor.amsMeans
open Go.ChangeShapes Go.WideShapes Go.ChangeAt Go.RowKit Go.Eng Go.Vx
set_option linter.unusedVariables false

theorem own : ownKnob Tryd.prog.godebug = none := by kernel_rfl
theorem laidOut : laidOutB Tryd.prog = true := by kernel_rfl

theorem walk (d0 : (Int × (Int × (Int × Unit)))) (o0 : okD (Sh.cons (Sh.int .i64) (Sh.cons (Sh.int .i64) (Sh.cons (Sh.int .i64) Sh.nil))) d0) (d1 : (List Int)) (o1 : okD (Sh.row (Sh.int .u64)) d1) : Fn1 Tryd.prog 3 [vOf (Sh.cons (Sh.int .i64) (Sh.cons (Sh.int .i64) (Sh.cons (Sh.int .i64) Sh.nil))) d0, vOf (Sh.row (Sh.int .u64)) d1] [] (.lit (.bool true)) [] := by
  obtain ⟨a, b, c, ⟨⟩⟩ := d0
  obtain ⟨hl1, hL1⟩ := o1
  unfold maxLen at hl1
  obtain ⟨W, rfl, h0⟩ := ws_nat (l := d1) (fun x hx => ⟨(hL1 x hx).1, (hL1 x hx).2⟩)
  have l0 : W.length ≤ 9223372036854775807 := Nat.le_trans (Nat.le_of_eq (nl_len W).symm) (Nat.le_trans hl1 (by decide))
  exact amsMeans_fn (a := a) (b := b) (c := c) (W := W) l0 h0

set_option maxRecDepth 100000 in
theorem met (os : Os) (args : Array Value) : laidMetH Tryd.prog Rows.amsMeansRow.laid ((World.doorLaid Tryd.prog 24 os).forCall (fun _ _ => 0) ⟨#[], args, []⟩).memory :=
  laidMetH_of_parts3 (fuel := 8) (laidMet_of_run' 8 (by kernel_rfl) (by kernel_rfl)) (by kernel_rfl) (by kernel_rfl)

set_option maxRecDepth 100000 in
theorem lifted (os : Os) (started : os.Started) (H : Type) (enc : TypeId × Value → H) :
    ReturnsInHanded {} Tryd.checked os 3 .any (fun w args => (Rows.amsMeansSpec.pre enc Tryd.prog Tryd.f3 [] false w args ∧ laidMetH Tryd.prog Rows.amsMeansRow.laid w) ∧ sizedMet enc Tryd.prog Tryd.f3 (OpenSpec.ofChange Rows.amsMeansSpec) false w args) (Rows.amsMeansSpec.post enc Tryd.prog Tryd.f3 false true false false) := by
  refine returnsInHanded_of_change_and (C := Tryd.checked) (X := fun w _ => laidMetH Tryd.prog Rows.amsMeansRow.laid w) (fun _ _ _ hh h => h.of_heap hh) own started (by kernel_rfl) Tryd.func3
    (ChangeSpec.witness_shaped (enc := enc) (C := Tryd.checked) (os := os) (X := fun w _ => laidMetH Tryd.prog Rows.amsMeansRow.laid w) false (World.doorLaid Tryd.prog 24 os) #[.agg #[.int .i64 0, .int .i64 0, .int .i64 0], .slice none 0 0] 8 rfl (World.shaped_of_RefB (by kernel_rfl) (by kernel_rfl)) (by kernel_rfl) (by kernel_rfl) (by kernel_rfl) (met os _)) ?_
  intro W base args ds gs before hval0 hW _ _ hL _
  have hval : ∀ (j : Nat) t v, Tryd.f3.params[j]? = some t → args[j]? = some v → Value.okWide Tryd.prog W .any base t v := hval0
  have hW' := hW
  obtain ⟨p, q, hA0, hV, rfl, hfz, hnd⟩ := hW
  have hA : DataW.TrodAll enc Tryd.prog W 0 (fun _ => true) true Tryd.f3.params.toList args.toList ds p := hA0
  rw [Tryd.params3] at hA hval
  obtain ⟨v0, vs0, e0, es0, p0, q0, hargs, rfl, rfl, h0, r0⟩ := trodAll_cons hA
  obtain ⟨v1, vs1, e1, es1, p1, q1, rfl, rfl, rfl, h1, r1⟩ := trodAll_cons r0
  obtain ⟨rfl, rfl, rfl⟩ := trodAll_nil r1
  obtain rfl : args = #[v0, v1] := by cases args; simp_all
  obtain ⟨rfl, rfl⟩ := trodVars_none hV
  obtain ⟨d0, o0, g0⟩ := open_arg (n := 12) (s := (Sh.cons (Sh.int .i64) (Sh.cons (Sh.int .i64) (Sh.cons (Sh.int .i64) Sh.nil)))) (by kernel_rfl) h0 (hval 0 23 v0 rfl rfl)
  have lt0 : ∀ x ∈ p0, x.block < W.heap.size := by
    obtain ⟨m, hm⟩ := h0
    exact DataW.trod_lt m _ _ _ hm
  obtain ⟨d1, o1, g1⟩ := open_arg (n := 12) (s := (Sh.row (Sh.int .u64))) (by kernel_rfl) h1 (hval 1 24 v1 rfl rfl)
  have lt1 : ∀ x ∈ p1, x.block < W.heap.size := by
    obtain ⟨m, hm⟩ := h1
    exact DataW.trod_lt m _ _ _ hm
  clear hA0 hval0
  refine (calls_fn (walk d0 o0 d1 o1) (.cons g0 (.cons g1 .nil)) (lay_of (l := Rows.amsMeansRow.laid) (by kernel_rfl) (by repeat (first | exact List.mem_cons_self | apply List.mem_cons_of_mem)) hL)).mono fun e W' ⟨he, bel⟩ => ?_
  subst he
  exact ⟨_, rfl, _, _, _, [], _, [], hW', trodAll_mk1 (shut_bool Tryd.underlying4 _), (trodAll_cons_mk (Below.trod laidOut (by kernel_rfl) (of_decide_eq_true (by kernel_rfl)) h0 bel lt0) (trodAll_cons_mk (Below.trod laidOut (by kernel_rfl) (of_decide_eq_true (by kernel_rfl)) h1 bel lt1) trodAll_mk0)), rfl, bel.frame _, fun h => by cases h⟩

theorem over : Rows.amsMeansRow.holds Tryd.pinned (OpenSpec.ofChange Rows.amsMeansSpec) :=
  OpenClaim.holds_of_wide 3 Tryd.f3 rfl rfl rfl rfl rfl rfl rfl ⟨rfl, rfl, rfl, rfl, rfl⟩ rfl rfl rfl rfl rfl (by kernel_rfl) Tryd.func3 (by kernel_rfl)
    (of_decide_eq_true (by kernel_rfl)) (by unfold Func.isWrapper; first | (rw [if_pos (by decide +kernel)]; kernel_rfl) | (rw [if_neg (by decide +kernel)]; exact ⟨rfl, rfl⟩))
    (fun os started H enc _ => lifted os started H enc)

theorem proved : Rows.AmsMeansCardSaid :=
  Claim7.holds_tied_plain_at .later [] [.data, .data, .data] true (true, "e02a384c0c439c931aab8109b70462b0891367d3aeecece9609d8c88ba0812d9") false
    over (fun _ h => by cases h) (by kernel_rfl) (fun _ h => by cases h) amsMeans_row_tie rfl ⟨rfl, rfl⟩ (by kernel_rfl) rfl
    (fun f fn hf hfn => by
      obtain rfl : f = 3 := Option.some.inj ((show Tryd.prog.funcNamed "tallymark/tallymarklaw22.AmsMeans" = some 3 by kernel_rfl).symm.trans hf) |>.symm
      obtain rfl : fn = Tryd.f3 := (Option.some.inj (Tryd.func3.symm.trans hfn)).symm
      exact ⟨by kernel_rfl, fun j t ht => by
        rw [Tryd.params3] at ht
        have hm : t ∈ [23, 24] := by simpa using Array.mem_of_getElem? ht
        have hall : ([23, 24].all fun u => !Tryd.prog.wantsStandIn u) = true := by kernel_rfl
        exact (show Tryd.prog.wantsStandIn t = false by simpa using List.all_eq_true.1 hall t hm)⟩)
    (by kernel_rfl)
#print axioms proved
end Go.Proofs.YtpkfddfkacijoaaDoor.amsMeans
