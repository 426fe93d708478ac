/- Proved for every input: the mean of each cell is what was added to it, merges and new scales included, over all tapes. -/
import Derived.Test.YtdmdmdoeahhkiaaGreatDoorRows
import Derived.Test.YtdmdmdoeahhkiaaGreatDoorJf
import Derived.Test.YtdmdmdoeahhkiaaGreatDoorE6
import Derived.Test.YtdmdmdoeahhkiaaGreatDoorE8
import Derived.Test.YtdmdmdoeahhkiaaGreatDoorCards
import Derived.Test.YtdmdmdoeahhkiaaGreatDoorTie
import Derived.SevenTiedAt
import Derived.LaidMore
import Derived.LaidLaws
import Derived.LaidHandle
import Derived.Lay
import Derived.MakeChecks
import Derived.WalkKit
import Derived.ProofKit
import Derived.OpenShut
import Derived.ShutString
import Derived.ChangeOld
import Derived.Below
import Derived.Carry
namespace Go.Proofs.YtdmdmdoeahhkiaaGreatDoor.sacMeans
open Go.ChangeShapes Go.WideShapes Go.ChangeAt Go.RowKit Go.Eng Go.Vx
set_option linter.unusedVariables false

theorem own : ownKnob Tryz.prog.godebug = none := by kernel_rfl
theorem laidOut : laidOutB Tryz.prog = true := by kernel_rfl

theorem walk (d0 : (Int × (Int × (Int × Unit)))) (o0 : okD (Sh.cons (Sh.int .i64) (Sh.cons (Sh.int .i64) (Sh.cons (Sh.int .i64) Sh.nil))) d0) (d1 : (Int × (Int × (Int × Unit)))) (o1 : okD (Sh.cons (Sh.int .i64) (Sh.cons (Sh.int .i64) (Sh.cons (Sh.int .i64) Sh.nil))) d1) : Fn1 Tryz.prog 7 [vOf (Sh.cons (Sh.int .i64) (Sh.cons (Sh.int .i64) (Sh.cons (Sh.int .i64) Sh.nil))) d0, vOf (Sh.cons (Sh.int .i64) (Sh.cons (Sh.int .i64) (Sh.cons (Sh.int .i64) Sh.nil))) d1] [] (.lit (.bool true)) [] := by
  obtain ⟨a0, a1, a2, ⟨⟩⟩ := d0
  obtain ⟨n0, n1, n2, ⟨⟩⟩ := d1
  exact sacMeans_fn (a := a0) (b := a1) (c := a2) (n0 := n0) (n1 := n1) (n2 := n2)

set_option maxRecDepth 100000 in
theorem met (os : Os) (args : Array Value) : laidMetH Tryz.prog Rows.sacMeansRow.laid ((World.doorLaid Tryz.prog 24 os).forCall (fun _ _ => 0) ⟨#[], args, []⟩).memory :=
  laidMetH_of_parts3 (fuel := 8) (laidMet_of_run' 8 (by kernel_rfl) (by kernel_rfl)) (by kernel_rfl) (by kernel_rfl)

set_option maxRecDepth 100000 in
theorem lifted (os : Os) (started : os.Started) (H : Type) (enc : TypeId × Value → H) :
    ReturnsInHanded {} Tryz.checked os 7 .any (fun w args => (Rows.sacMeansSpec.pre enc Tryz.prog Tryz.f7 [] false w args ∧ laidMetH Tryz.prog Rows.sacMeansRow.laid w) ∧ sizedMet enc Tryz.prog Tryz.f7 (OpenSpec.ofChange Rows.sacMeansSpec) false w args) (Rows.sacMeansSpec.post enc Tryz.prog Tryz.f7 false true false false) := by
  refine returnsInHanded_of_change_and (C := Tryz.checked) (X := fun w _ => laidMetH Tryz.prog Rows.sacMeansRow.laid w) (fun _ _ _ hh h => h.of_heap hh) own started (by kernel_rfl) Tryz.func7
    (ChangeSpec.witness_shaped (enc := enc) (C := Tryz.checked) (os := os) (X := fun w _ => laidMetH Tryz.prog Rows.sacMeansRow.laid w) false (World.doorLaid Tryz.prog 24 os) #[.agg #[.int .i64 0, .int .i64 0, .int .i64 0], .agg #[.int .i64 0, .int .i64 0, .int .i64 0]] 8 rfl (World.shaped_of_RefB (by kernel_rfl) (by kernel_rfl)) (by kernel_rfl) (by kernel_rfl) (by kernel_rfl) (met os _)) ?_
  intro W base args ds gs before hval0 hW _ _ hL _
  have hval : ∀ (j : Nat) t v, Tryz.f7.params[j]? = some t → args[j]? = some v → Value.okWide Tryz.prog W .any base t v := hval0
  have hW' := hW
  obtain ⟨p, q, hA0, hV, rfl, hfz, hnd⟩ := hW
  have hA : DataW.TrodAll enc Tryz.prog W 0 (fun _ => true) true Tryz.f7.params.toList args.toList ds p := hA0
  rw [Tryz.params7] at hA hval
  obtain ⟨v0, vs0, e0, es0, p0, q0, hargs, rfl, rfl, h0, r0⟩ := trodAll_cons hA
  obtain ⟨v1, vs1, e1, es1, p1, q1, rfl, rfl, rfl, h1, r1⟩ := trodAll_cons r0
  obtain ⟨rfl, rfl, rfl⟩ := trodAll_nil r1
  obtain rfl : args = #[v0, v1] := by cases args; simp_all
  obtain ⟨rfl, rfl⟩ := trodVars_none hV
  obtain ⟨d0, o0, g0⟩ := open_arg (n := 12) (s := (Sh.cons (Sh.int .i64) (Sh.cons (Sh.int .i64) (Sh.cons (Sh.int .i64) Sh.nil)))) (by kernel_rfl) h0 (hval 0 59 v0 rfl rfl)
  have lt0 : ∀ x ∈ p0, x.block < W.heap.size := by
    obtain ⟨m, hm⟩ := h0
    exact DataW.trod_lt m _ _ _ hm
  obtain ⟨d1, o1, g1⟩ := open_arg (n := 12) (s := (Sh.cons (Sh.int .i64) (Sh.cons (Sh.int .i64) (Sh.cons (Sh.int .i64) Sh.nil)))) (by kernel_rfl) h1 (hval 1 82 v1 rfl rfl)
  have lt1 : ∀ x ∈ p1, x.block < W.heap.size := by
    obtain ⟨m, hm⟩ := h1
    exact DataW.trod_lt m _ _ _ hm
  clear hA0 hval0
  refine (calls_fn (walk d0 o0 d1 o1) (.cons g0 (.cons g1 .nil)) (lay_of (l := Rows.sacMeansRow.laid) (by kernel_rfl) (by repeat (first | exact List.mem_cons_self | apply List.mem_cons_of_mem)) hL)).mono fun e W' ⟨he, bel⟩ => ?_
  subst he
  exact ⟨_, rfl, _, _, _, [], _, [], hW', trodAll_mk1 (shut_bool Tryz.underlying4 _), (trodAll_cons_mk (Below.trod laidOut (by kernel_rfl) (of_decide_eq_true (by kernel_rfl)) h0 bel lt0) (trodAll_cons_mk (Below.trod laidOut (by kernel_rfl) (of_decide_eq_true (by kernel_rfl)) h1 bel lt1) trodAll_mk0)), rfl, bel.frame _, fun h => by cases h⟩

theorem over : Rows.sacMeansRow.holds Tryz.pinned (OpenSpec.ofChange Rows.sacMeansSpec) :=
  OpenClaim.holds_of_wide 7 Tryz.f7 rfl rfl rfl rfl rfl rfl rfl ⟨rfl, rfl, rfl, rfl, rfl⟩ rfl rfl rfl rfl rfl (by kernel_rfl) Tryz.func7 (by kernel_rfl)
    (of_decide_eq_true (by kernel_rfl)) (by unfold Func.isWrapper; first | (rw [if_pos (by decide +kernel)]; kernel_rfl) | (rw [if_neg (by decide +kernel)]; exact ⟨rfl, rfl⟩))
    (fun os started H enc _ => lifted os started H enc)

theorem proved : Rows.SacMeansCardSaid :=
  Claim7.holds_tied_plain_at .later [] [.data, .data, .data] true (true, "36999f8fb9c09c6f2542b2c9fc19c0da8b4d31f8e49bab9582fb40b8ee5219f1") false
    over (fun _ h => by cases h) (by kernel_rfl) (fun _ h => by cases h) sacMeans_row_tie rfl ⟨rfl, rfl⟩ (by kernel_rfl) rfl
    (fun f fn hf hfn => by
      obtain rfl : f = 7 := Option.some.inj ((show Tryz.prog.funcNamed "tallymark/tallymarklaw19.SacMeans" = some 7 by kernel_rfl).symm.trans hf) |>.symm
      obtain rfl : fn = Tryz.f7 := (Option.some.inj (Tryz.func7.symm.trans hfn)).symm
      exact ⟨by kernel_rfl, fun j t ht => by
        rw [Tryz.params7] at ht
        have hm : t ∈ [59, 82] := by simpa using Array.mem_of_getElem? ht
        have hall : ([59, 82].all fun u => !Tryz.prog.wantsStandIn u) = true := by kernel_rfl
        exact (show Tryz.prog.wantsStandIn t = false by simpa using List.all_eq_true.1 hall t hm)⟩)
    (by kernel_rfl)
#print axioms proved
end Go.Proofs.YtdmdmdoeahhkiaaGreatDoor.sacMeans
