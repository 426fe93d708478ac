import Derived.Test.YtpkfddfkacijoaaGreatDoorZ2
import Derived.Test.YtpkfddfkacijoaaGreatDoorE6
import Derived.Test.YtpkfddfkacijoaaGreatDoorFa
namespace Go.Proofs.YtpkfddfkacijoaaGreatDoor
open Go.Eng Go.Vx
set_option linter.unusedSimpArgs false
set_option linter.unusedVariables false
set_option maxRecDepth 100000
theorem rat_div_eq {x y : Rat} : ((x.num * (y.den : Int) : Int) : Rat) / ((y.num * (x.den : Int) : Int) : Rat) = x / y := by
 rw [← Rat.divInt_eq_div, Rat.div_def x y, Rat.inv_def]
 conv => rhs; rw [← Rat.num_divInt_den x]
 rw [Rat.divInt_mul_divInt, Int.mul_comm y.num]
theorem rat_num_ne {y : Rat} (h : y ≠ 0) : y.num ≠ 0 := fun e => h (Rat.num_eq_zero.1 e)
theorem RS_div {k l : Nat} {x y : Rat} (hk : 1 ≤ k + l) (hx : RS k x) (hy : RS l y) : RS (k + l) (x / y) := by
 by_cases h : y = 0
 ·
  subst h
  have e : x / 0 = 0 := by rw [Rat.div_def, Rat.inv_zero, Rat.mul_zero]
  rw [e]
  exact ⟨by rw [show (0 : Rat).num.natAbs = 0 from rfl, wg_zero]; exact Nat.zero_le _, Nat.le_trans (wg_one (by decide)) hk⟩
 ·
  have hn0 : y.num * (x.den : Int) ≠ 0 := Int.mul_ne_zero (rat_num_ne h) (by have := x.den_nz; omega)
  rw [← rat_div_eq, ← frac_eq hn0]
  refine RS_mk (by omega) ?_ ?_
  ·
   rw [sg_abs]
   exact len_mulZ hx.1 (by simp only [Int.natAbs_natCast]; exact hy.2)
  ·
   have := len_mulZ (x := y.num) (y := (x.den : Int)) hy.1 (by simp only [Int.natAbs_natCast]; exact hx.2)
   omega
theorem rfloor_fn {x : Rat} (hx : RS 400000 x) : Fn1 Tryz.prog 145 [RV x] [] (WV x.floor) [] := by
 obtain ⟨hx1, hx2⟩ := hx
 have hd := wdiv_fn (x := x.num) (y := (x.den : Int)) (by have := x.den_nz; omega) (by omega) (by simp only [Int.natAbs_natCast]; omega)
 rw [← Rat.floor_def] at hd
 refine fn1N_of pl145 (by kernel_rfl) Tryz.call145 Tryz.func145 rfl (by kernel_rfl) rfl [.cell 2 89] (by kernel_rfl) fun Q hQ => ?_
 refine runW ?_
 refine callV0 (rdenw_fn (x := x) (by omega)) rfl rfl ?_
 refine runW ?_
 refine callV0 (hd) rfl rfl ?_
 refine runW ?_
 exact endW [] hQ
end Go.Proofs.YtpkfddfkacijoaaGreatDoor

namespace Go.Vx
open Go.Eng
set_option linter.unusedSimpArgs false
set_option linter.unusedVariables false
section
variable {P : Program}
def FnR (P : Program) (f : FuncId) (vs : List V) (σ : St) {X : Type} (R : X → Prop) (r : X → V) (s : X → St) : Prop := Fn P f vs σ fun u' s' => ∃ x, R x ∧ u' = r x ∧ s' = s x
theorem fnRN_of {f : FuncId} {fn : Func} {c : Code} {vs : List V} {σ : St} {X : Type} {R : X → Prop} {r : X → V} {s : X → St} (pl : Plans) (hm : P.follows .mixedOrders = true) (hcf : ∀ (args : Array Value) (w : World), (callFunc f args).run P w = .ok (.enter f args) w)
  (hf : P.funcs[f]? = some fn) (hb : fn.body = some c) (hc : chkN fn.ntmps pl c = true) (hs : Nat.ble vs.length fn.ntmps = true) (rs : List ResultVar) (hr : fn.results.toList = rs)
  (h : ∀ Q : V → St → Prop, (∀ x, R x → Q (r x) (s x)) → denV true P σ.length pl c (rgV 0 vs) σ (retPV P rs (EndV σ.length Q))) : FnR P f vs σ R r s :=
 fn_of pl hm hcf hf hb (chkN_chk hc) hs rs hr (h _ fun x hx => ⟨x, hx, rfl, rfl⟩)
theorem callR {e : Bool} {f : FuncId} {vs vs₀ : List V} {σ σ₀ : St} {X : Type} {R : X → Prop} {r : X → V} {s : X → St} {K : KV} (π : Pi) (F : List Nat) (spec : FnR P f vs₀ σ₀ R r s)
  (hk : ∀ x, R x → K true (renV (rnm (vpi σ.length π) (σ.length + vcnt π)) (r x)) (behd π F σ (s x)))
  (h1 : (ndp π && π.all (fun p => match p with | some p => decide (p < σ.length) && !F.contains p | none => true)) = true := by rfl)
  (h2 : mSt F.contains π σ σ₀ π := by simp (disch := (first | omega | (simp only [List.length_append, List.length_set, List.length_cons, List.length_nil, List.length_replicate, List.length_take, List.length_drop, List.length_map, List.length_range, true_and, and_true]; (try omega); done) | fail)) only [go_sem, Int.reduceEq, Int.reduceToNat, Nat.reduceAdd, Nat.reduceMul, Nat.reduceEqDiff, ↓reduceIte, true_and, and_true, and_self, List.drop_zero, List.take_length, Nat.le_refl, V.lit.injEq, Value.int.injEq, Value.bool.injEq]; try (first | omega | (simp; done) | (simp; omega)))
  (h3 : mVs F.contains π σ vs₀ vs := by simp (disch := (first | omega | (simp only [List.length_append, List.length_set, List.length_cons, List.length_nil, List.length_replicate, List.length_take, List.length_drop, List.length_map, List.length_range, true_and, and_true]; (try omega); done) | fail)) only [go_sem, Int.reduceEq, Int.reduceToNat, Nat.reduceAdd, Nat.reduceMul, Nat.reduceEqDiff, ↓reduceIte, true_and, and_true, and_self, List.drop_zero, List.take_length, Nat.le_refl, V.lit.injEq, Value.int.injEq, Value.bool.injEq]; try (first | omega | (simp; done) | (simp; omega))) (he : e = true → σ₀ = [] := by simp) : callV P e f vs σ K :=
 callV_of π F spec ⟨h1, h2, h3⟩ he fun u s ⟨x, hx, h4, h5⟩ => by rw [h4, h5]; exact hk x hx
end
@[go_sem] theorem pnO_cells {l : List V} : pnO (.cells l) = (pnV.pnL l = true) := (rfl)
end Go.Vx

namespace Go.Proofs.YtpkfddfkacijoaaGreatDoor
open Go.Eng Go.Vx
set_option linter.unusedSimpArgs false
set_option linter.unusedVariables false
set_option maxRecDepth 100000
theorem rnumB_fn {B : List Int} {p : Nat} {w : Int} (hw : ¬ (0 ≤ w ∧ w ≤ 64)) : Fn1 Tryz.prog 50 [.ref 0 0 0 0, .lit (.int .i64 w)] [some (rdC B p)] (.tup [.lit (.int .u64 0), .lit (.int .i64 2)]) [some (rdC B p)] := by
 refine fn1N_of pl50 (by kernel_rfl) Tryz.call50 Tryz.func50 rfl (by kernel_rfl) rfl [.tmp 4, .tmp 5] (by kernel_rfl) fun Q hQ => ?_
 simp (maxSteps := 1000000) (disch := (first | omega | (simp only [lnA, List.length_map, List.length_range, true_and, and_true]; (try omega); done) | fail)) only [go_sem, Int.reduceEq, Int.reduceToNat, Nat.reduceAdd, Nat.reduceMul, Nat.reduceEqDiff, ↓reduceIte]
 refine callV0 (bgood_fn) rfl rfl ?_
 rw [decide_eq_false hw]
 simp (maxSteps := 1000000) (disch := (first | omega | (simp only [lnA, List.length_map, List.length_range, true_and, and_true]; (try omega); done) | fail)) only [go_sem, Int.reduceEq, Int.reduceToNat, Nat.reduceAdd, Nat.reduceMul, Nat.reduceEqDiff, ↓reduceIte]
 exact endW [some 0] hQ
theorem rnumX_fn {B : List Int} {p : Nat} {w : Int} (hI : IsB B) (hB : B.length ≤ 1099511627776) (hp : p ≤ 8 * B.length) : Fn1 Tryz.prog 50 [.ref 0 0 0 0, .lit (.int .i64 w)] [some (rdC B p)]
  (.tup [.lit (.int .u64 ((rX (bitsOf B) p w).1 : Int)), .lit (.int .i64 (rX (bitsOf B) p w).2.2)]) [some (rdC B (rX (bitsOf B) p w).2.1)] := by
 unfold rX
 have hbl := bitsOf_len B
 by_cases hw : 0 ≤ w ∧ w ≤ 64
 ·
  obtain ⟨m, rfl⟩ := Int.eq_ofNat_of_zero_le hw.1
  simp only [if_pos hw, Int.toNat_natCast]
  by_cases h2 : p + m ≤ (bitsOf B).length
  ·
   simp only [if_pos h2]
   exact brnum_fn hI hB (by omega) (by omega)
  ·
   simp only [if_neg h2]
   exact rnumE_fn hI hB (by omega) (by omega) hp
 ·
  simp only [if_neg hw]
  exact rnumB_fn hw
theorem refGetX_fn {L : List Bool} {p : Nat} {w : Int} (hL : L.length ≤ 1099511627776) (hp : p ≤ L.length) : Fn1 Tryz.prog 68 [.row 1 (L.map be), .lit (.int .i64 (p : Int)), .lit (.int .i64 w)] []
  (.tup [.lit (.int .u64 ((rX L p w).1 : Int)), .lit (.int .i64 ((rX L p w).2.1 : Int)), .lit (.int .i64 (rX L p w).2.2)]) [] := by
 unfold rX
 by_cases hw : 0 ≤ w ∧ w ≤ 64
 ·
  obtain ⟨m, rfl⟩ := Int.eq_ofNat_of_zero_le hw.1
  simp only [if_pos hw, Int.toNat_natCast]
  by_cases h2 : p + m ≤ L.length
  ·
   simp only [if_pos h2]
   exact refGet_fn hL (by omega) h2
  ·
   simp only [if_neg h2]
   refine fn1N_of pl68 (by kernel_rfl) Tryz.call68 Tryz.func68 rfl (by kernel_rfl) rfl [.tmp 6, .tmp 7, .tmp 8] (by kernel_rfl) fun Q hQ => ?_
   simp (maxSteps := 1000000) (disch := (first | omega | (simp only [lnA, List.length_map, List.length_range, true_and, and_true]; (try omega); done) | fail)) only [go_sem, Int.reduceEq, Int.reduceToNat, Nat.reduceAdd, Nat.reduceMul, Nat.reduceEqDiff, ↓reduceIte]
   exact endW [] hQ
 ·
  simp only [if_neg hw]
  refine fn1N_of pl68 (by kernel_rfl) Tryz.call68 Tryz.func68 rfl (by kernel_rfl) rfl [.tmp 6, .tmp 7, .tmp 8] (by kernel_rfl) fun Q hQ => ?_
  by_cases h0 : w < 0
  ·
   simp (maxSteps := 1000000) (disch := (first | omega | (simp only [lnA, List.length_map, List.length_range, true_and, and_true]; (try omega); done) | fail)) only [go_sem, Int.reduceEq, Int.reduceToNat, Nat.reduceAdd, Nat.reduceMul, Nat.reduceEqDiff, ↓reduceIte]
   exact endW [] hQ
  ·
   simp (maxSteps := 1000000) (disch := (first | omega | (simp only [lnA, List.length_map, List.length_range, true_and, and_true]; (try omega); done) | fail)) only [go_sem, Int.reduceEq, Int.reduceToNat, Nat.reduceAdd, Nat.reduceMul, Nat.reduceEqDiff, ↓reduceIte]
   exact endW [] hQ
theorem rbitX_fn {B : List Int} {p : Nat} (hI : IsB B) (hB : B.length ≤ 1099511627776) (hp : p ≤ 8 * B.length) : Fn1 Tryz.prog 15 [.ref 0 0 0 0] [some (rdC B p)]
  (.tup [.lit (.bool (decide ((rX (bitsOf B) p 1).1 = 1))), .lit (.int .i64 (rX (bitsOf B) p 1).2.2)]) [some (rdC B (rX (bitsOf B) p 1).2.1)] := by
 refine fn1N_of pl15 (by kernel_rfl) Tryz.call15 Tryz.func15 rfl (by kernel_rfl) rfl [.tmp 2, .tmp 3] (by kernel_rfl) fun Q hQ => ?_
 simp (maxSteps := 1000000) (disch := (first | omega | (simp only [lnA, List.length_map, List.length_range, true_and, and_true]; (try omega); done) | fail)) only [go_sem, Int.reduceEq, Int.reduceToNat, Nat.reduceAdd, Nat.reduceMul, Nat.reduceEqDiff, ↓reduceIte]
 refine callW [some 0] [] (rnumX_fn (B := B) (p := p) (w := 1) hI hB hp) ?_
 simp (maxSteps := 1000000) (disch := (first | omega | (simp only [lnA, List.length_map, List.length_range, true_and, and_true]; (try omega); done) | fail)) only [go_sem, Int.reduceEq, Int.reduceToNat, Nat.reduceAdd, Nat.reduceMul, Nat.reduceEqDiff, ↓reduceIte]
 rw [show decide (((rX (bitsOf B) p 1).1 : Int) = 1) = decide ((rX (bitsOf B) p 1).1 = 1) by rw [decide_eq_decide]; omega]
 exact endW [some 0] hQ
end Go.Proofs.YtpkfddfkacijoaaGreatDoor
