import Derived.Test.YtdohmppildfjhaaGreatDoorN1
import Derived.Test.YtdohmppildfjhaaGreatDoorNe
import Derived.Test.YtdohmppildfjhaaGreatDoorFa
import Derived.Test.YtdohmppildfjhaaGreatDoorD3
import Derived.Test.YtdohmppildfjhaaGreatDoorGd
import Derived.Test.YtdohmppildfjhaaGreatDoorGe
namespace Go.Proofs.YtdohmppildfjhaaGreatDoor
open Go.Eng Go.Vx
set_option linter.unusedSimpArgs false
set_option linter.unusedVariables false
set_option maxRecDepth 100000
abbrev PL := Nat × Nat × Nat × Nat
def plV (x : PL) : V := .agg [.lit (.int .i64 (x.1 : Int)), .lit (.int .i64 (x.2.1 : Int)), .row 1 ((nl (wg x.2.2.1)).map (ie .u64)), .row 1 ((nl (wg x.2.2.2)).map (ie .u64))]
attribute [go_sem] plV
def moreN (s t : Nat) : Nat := t + if t / 2 ^ s * 2 ^ s < t then t / 2 ^ s + 1 else t / 2 ^ s
def plN (s : Nat) (x : PL) : PL := if x.2.2.2 ≤ x.2.2.1 + 2 ^ x.2.1 then (x.1 + 1, bl (moreN s x.2.2.2) - 1 - 2 * s, x.2.2.1 + 2 ^ x.2.1, moreN s x.2.2.2) else (x.1, x.2.1, x.2.2.1 + 2 ^ x.2.1, x.2.2.2)
theorem wg_small {n : Nat} (h : n < 18446744073709551616) : (wg n).length ≤ 1 := wg_one h
theorem ymore_fn {s t : Nat} (hs : s ≤ 5) (ht : t < 4294967296) : Fn1 Tryz.prog 211 [.lit (.int .i64 (s : Int)), NV t] [] (NV (moreN s t)) [] := by
 have w0 := wg_small (n := t) (by omega)
 have hp : 2 ^ s ≤ 2 ^ 5 := Nat.pow_le_pow_right (by decide) hs
 have hd : t / 2 ^ s ≤ t := Nat.div_le_self _ _
 have hm : t / 2 ^ s * 2 ^ s ≤ t := Nat.div_mul_le_self _ _
 have w1 := wg_small (n := t / 2 ^ s) (by omega)
 have w2 := wg_small (n := t / 2 ^ s * 2 ^ s) (by omega)
 have w3 := wg_small (n := t / 2 ^ s + 1) (by omega)
 have w4 := wg_small (n := 1) (by omega)
 have sr := shr_fn (v := t) (N := s) (n := (s : Int)) (by omega) (by omega) (by omega)
 have sl := shl_fn (v := t / 2 ^ s) (N := s) (by omega) (by omega)
 have cm := ncmp_fn (a := t / 2 ^ s * 2 ^ s) (b := t) (by omega) (by omega)
 have o1 := of1_fn (x := 1) (by decide)
 rw [show ((1 : Nat) : Int) = 1 from rfl] at o1
 have a1 := nadd_fn (a := t / 2 ^ s) (b := 1) (by omega) (by omega)
 have a2 := nadd_fn (a := t) (b := t / 2 ^ s + 1) (by omega) (by omega)
 have a3 := nadd_fn (a := t) (b := t / 2 ^ s) (by omega) (by omega)
 have hc := cmpI_neg (a := t / 2 ^ s * 2 ^ s) (b := t)
 unfold moreN
 generalize t / 2 ^ s * 2 ^ s = u at *
 generalize t / 2 ^ s = q at *
 refine fn1N_of pl211 (by kernel_rfl) Tryz.call211 Tryz.func211 rfl (by kernel_rfl) rfl [.cell 4 31] (by kernel_rfl) fun Q hQ => ?_
 by_cases hu : u < t
 ·
  rw [if_pos hu] at hQ
  have hd := decide_eq_true (hc.2 hu)
  refine runW ?_
  refine callV0 (sr) rfl rfl ?_
  refine runW ?_
  refine callV0 (sl) rfl rfl ?_
  refine runW ?_
  refine callV0 (cm) rfl rfl ?_
  simp (maxSteps := 1000000) (disch := (first | omega | (simp only [lnA, List.length_map, List.length_range, true_and, and_true]; (try omega); done) | fail)) only [go_sem, hd, Int.reduceEq, Int.reduceToNat, Nat.reduceAdd, Nat.reduceMul, Nat.reduceEqDiff, ↓reduceIte]
  refine callW [] [4] (o1) ?_
  refine runW ?_
  refine callV0 (a1) rfl rfl ?_
  refine runW ?_
  refine callV0 (a2) rfl rfl ?_
  refine runW ?_
  exact endW [] hQ
 ·
  rw [if_neg hu] at hQ
  have hd := decide_eq_false (fun e => hu (hc.1 e))
  refine runW ?_
  refine callV0 (sr) rfl rfl ?_
  refine runW ?_
  refine callV0 (sl) rfl rfl ?_
  refine runW ?_
  refine callV0 (cm) rfl rfl ?_
  simp (maxSteps := 1000000) (disch := (first | omega | (simp only [lnA, List.length_map, List.length_range, true_and, and_true]; (try omega); done) | fail)) only [go_sem, hd, Int.reduceEq, Int.reduceToNat, Nat.reduceAdd, Nat.reduceMul, Nat.reduceEqDiff, ↓reduceIte]
  refine callV0 (a3) rfl rfl ?_
  refine runW ?_
  exact endW [] hQ
theorem yshift_fn {s t : Nat} (hs : s ≤ 5) (ht : t < 4294967296 * 3) : Fn1 Tryz.prog 212 [.lit (.int .i64 (s : Int)), NV t] [] (.lit (.int .i64 ((bl t - 1 - 2 * s : Nat) : Int))) [] := by
 have w0 := wg_small (n := t) (by omega)
 have b := bits_fn (n := t) (by omega)
 have hb := bl_le_of (n := t) (k := 34) (by omega)
 have hm : max 0 ((bl t : Int) - 1 - 2 * (s : Int)) = ((bl t - 1 - 2 * s : Nat) : Int) := by omega
 generalize bl t = B at *
 refine fn1N_of pl212 (by kernel_rfl) Tryz.call212 Tryz.func212 rfl (by kernel_rfl) rfl [.tmp 4] (by kernel_rfl) fun Q hQ => ?_
 refine runW ?_
 refine callV0 (b) rfl rfl ?_
 simp (maxSteps := 1000000) (disch := (first | omega | (simp only [lnA, List.length_map, List.length_range, true_and, and_true]; (try omega); done) | fail)) only [go_sem, hm, Int.reduceEq, Int.reduceToNat, Nat.reduceAdd, Nat.reduceMul, Nat.reduceEqDiff, ↓reduceIte]
 exact endW [] hQ
theorem bl_more {s t : Nat} : moreN s t ≤ t + (t + 1) := by
 have hd : t / 2 ^ s ≤ t := Nat.div_le_self _ _
 unfold moreN
 split <;> omega
set_option maxHeartbeats 1000000 in
theorem ynext_fn {s : Nat} {x : PL} (hs : s ≤ 5) (h1 : x.1 < 100000) (h2 : x.2.1 ≤ 30) (h3 : x.2.2.1 < 4294967296) (h4 : x.2.2.2 < 4294967296) : Fn1 Tryz.prog 210 [plV x, .lit (.int .i64 (s : Int))] [] (plV (plN s x)) [] := by
 obtain ⟨X, Sh, U, R⟩ := x
 dsimp only at h1 h2 h3 h4
 have hp : 2 ^ Sh ≤ 2 ^ 30 := Nat.pow_le_pow_right (by decide) h2
 have hmb := bl_more (s := s) (t := R)
 have wV := wg_small (n := U) (by omega)
 have wR := wg_small (n := R) (by omega)
 have w1 := wg_small (n := 1) (by omega)
 have wS := wg_small (n := 2 ^ Sh) (by omega)
 have wA := wg_small (n := U + 2 ^ Sh) (by omega)
 have wM := wg_small (n := moreN s R) (by omega)
 have o1 := of1_fn (x := 1) (by decide)
 rw [show ((1 : Nat) : Int) = 1 from rfl] at o1
 have sl := shl_fn (v := 1) (N := Sh) (by omega) (by omega)
 rw [Nat.one_mul] at sl
 have a1 := nadd_fn (a := U) (b := 2 ^ Sh) (by omega) (by omega)
 have cm := ncmp_fn (a := U + 2 ^ Sh) (b := R) (by omega) (by omega)
 have hc := cmpI_neg (a := U + 2 ^ Sh) (b := R)
 have mo := ymore_fn hs h4
 have sh := yshift_fn (s := s) (t := moreN s R) hs (by omega)
 unfold plN
 dsimp only
 generalize moreN s R = M at *
 generalize U + 2 ^ Sh = A at *
 generalize 2 ^ Sh = P at *
 refine fn1N_of pl210 (by kernel_rfl) Tryz.call210 Tryz.func210 rfl (by kernel_rfl) rfl [.cell 4 215] (by kernel_rfl) fun Q hQ => ?_
 by_cases hu : R ≤ A
 ·
  rw [if_pos hu] at hQ
  have hd := decide_eq_true (show (0 : Int) ≤ cmpI A R from by
   refine Classical.byContradiction fun h => ?_
   have := hc.1 (by omega)
   omega)
  refine runW ?_
  refine callW [] [2] (o1) ?_
  refine runW ?_
  refine callV0 (sl) rfl rfl ?_
  refine runW ?_
  refine callV0 (a1) rfl rfl ?_
  refine runW ?_
  refine callV0 (cm) rfl rfl ?_
  simp (maxSteps := 1000000) (disch := (first | omega | (simp only [lnA, List.length_map, List.length_range, true_and, and_true]; (try omega); done) | fail)) only [go_sem, hd, Int.reduceEq, Int.reduceToNat, Nat.reduceAdd, Nat.reduceMul, Nat.reduceEqDiff, ↓reduceIte]
  refine callV0 (mo) rfl rfl ?_
  refine runW ?_
  refine callV0 (sh) rfl rfl ?_
  refine runW ?_
  exact endW [] hQ
 ·
  rw [if_neg hu] at hQ
  have hd := decide_eq_false (show ¬ (0 : Int) ≤ cmpI A R from by
   have := hc.2 (show A < R by omega)
   omega)
  refine runW ?_
  refine callW [] [2] (o1) ?_
  refine runW ?_
  refine callV0 (sl) rfl rfl ?_
  refine runW ?_
  refine callV0 (a1) rfl rfl ?_
  refine runW ?_
  refine callV0 (cm) rfl rfl ?_
  simp (maxSteps := 1000000) (disch := (first | omega | (simp only [lnA, List.length_map, List.length_range, true_and, and_true]; (try omega); done) | fail)) only [go_sem, hd, Int.reduceEq, Int.reduceToNat, Nat.reduceAdd, Nat.reduceMul, Nat.reduceEqDiff, ↓reduceIte]
  exact endW [] hQ
def cfA (x y : AtC) : Int := ordK x.1 y.1
theorem swoA : Go.Sort.SWO (Go.Proofs.ltOf cfA) where
 irrefl x := by
  simp only [Go.Proofs.ltOf, cfA, decide_eq_false_iff_not, ordK_lt]
  omega
 trans x y z h1 h2 := by
  simp only [Go.Proofs.ltOf, cfA, decide_eq_true_eq, ordK_lt] at *
  omega
 ntrans x y z h1 h2 := by
  simp only [Go.Proofs.ltOf, cfA, decide_eq_false_iff_not, ordK_lt] at *
  omega
theorem ordW {W : World} {Im : Nat → Prop} (hlay : LayOk W Im) (him : ∀ b, Im b → b < W.heap.size) (x y : AtC) :
  Calls Tryz.prog 73 (#[.agg (ecA x).toArray, .agg (ecA y).toArray] ++ #[]) W fun e w' => e = .returned (.int .i64 (cfA x y)) ∧ ∃ q os', w' = Go.Sort.grow (W.drewN q) os' := by
 have sp := porder_fn (k := x.1) (k' := y.1) (v1 := .lit (.slice x.2.1.1 x.2.1.2.1 x.2.1.2.2)) (v2 := .lit (.bool x.2.2.1)) (v3 := .lit (.slice x.2.2.2.1 x.2.2.2.2.1 x.2.2.2.2.2)) (u1 := .lit (.slice y.2.1.1 y.2.1.2.1 y.2.1.2.2)) (u2 := .lit (.bool y.2.2.1)) (u3 := .lit (.slice y.2.2.2.1 y.2.2.2.2.1 y.2.2.2.2.2))
 have r0 : Rel [] Im [] W := ⟨rfl, fun o ob h => by simp at h, fun o o' ob ob' b n n' h => by simp at h, fun b hb => ⟨him b hb, by simp [live]⟩, hlay⟩
 have hag : ∀ z : AtC, RepV W Im [] (.agg [.lit (.int .i64 z.1.1), .lit (.int .i64 z.1.2.1), .lit (.bool z.1.2.2), .lit (.slice z.2.1.1 z.2.1.2.1 z.2.1.2.2), .lit (.bool z.2.2.1), .lit (.slice z.2.2.2.1 z.2.2.2.2.1 z.2.2.2.2.2)]) (.agg (ecA z).toArray) := fun z =>
  .agg (C := ecA z) rfl (by simp [ecA, vlA, oneC]) (RepL.cons (.lit rfl) (.cons (.lit rfl) (.cons (.lit rfl) (.cons (.lit rfl) (.cons (.lit rfl) (.cons (.lit rfl) .nil)))))).2
 rw [Array.append_empty]
 refine Calls.mono (sp.2 [] Im W [.agg (ecA x).toArray, .agg (ecA y).toArray] r0 (.cons (hag x) (.cons (hag y) .nil))) ?_
 rintro e w' ⟨v, rfl, u, σ', μ', Im', r', st, -, hv, rfl, rfl⟩
 cases hv
 exact ⟨rfl, ext_grow (st.ext.mono (by simp [live]))⟩
theorem isAggA : ∀ w, (isAgg (Tryz.sortA_ren.t 24)).run Tryz.prog w = .ok true w := Tryz.isAgg52
theorem sizeOfA : ∀ w, (Go.sizeOf (Tryz.sortA_ren.t 24)).run Tryz.prog w = .ok 6 w := Tryz.sizeOf52
set_option maxHeartbeats 2000000 in
theorem psort_fn {l : Ds} (hn : ndK l) (hne : l ≠ []) (hsz : l.length < 4611686018427387904) :
  Fn1 Tryz.prog 72 [.sl 0 6 0 l.length, .clo 73 []] [some (.row 6 (l.map enA))] (.tup []) [some (.row 6 ((srtD l).map enA))] := by
 refine ⟨Tryz.call72, fun μ Im w args r hl => ?_⟩
 obtain ⟨a, l1, rfl, ha, hl⟩ := hl.uncons
 obtain ⟨b, l2, rfl, hb, hl⟩ := hl.uncons
 have : l2 = [] := List.length_eq_zero_iff.1 (by simpa using hl.1)
 subst this
 obtain ⟨loc, hloc, hz, hO⟩ := r.rep 0 (.row 6 (l.map enA)) rfl
 have hpos : 0 < l.length := List.length_pos_iff.2 hne
 rcases hO with ⟨_, e⟩ | ⟨blk, C, rfl, hB, hCl, hr⟩
 ·
  exact absurd (List.map_eq_nil_iff.1 e) hne
 rw [List.length_map] at hCl
 cases ha with
 | @sl _ _ _ _ cap a hs =>
  rw [hloc] at hs
  obtain ⟨hlc, ha, hn2⟩ := hs
  have ha' := ha (.inl hpos)
  subst ha'
  cases hb with
  | @clo _ _ Cb hcn hcr =>
   have : Cb = [] := List.length_eq_zero_iff.1 (by simpa using hcn)
   subst this
   obtain ⟨Z, z1, z2, z3⟩ := rowD_ex l C hCl hr
   have hZl : Z.length = l.length := by rw [← z1, List.length_map]
   obtain ⟨D, hD⟩ : ∃ D, D = Z.map (·.2) := ⟨_, rfl⟩
   have hDl : D.length = l.length := by rw [hD, List.length_map, hZl]
   rw [← hD] at z2
   have hblk := hB.lt
   have hlive : blk ∈ live μ [some (Ob.row 6 (l.map enA))] := mem_live.2 ⟨0, C.length, _, hloc, rfl⟩
   have hH : Go.Sort.HoldsK ecA 6 w blk 0 D.toArray := fun j hj => by
    rw [Go.Sort.size_flatK] at hj
    have hj' : j < D.length * 6 := by simpa using hj
    rw [Go.Sort.get_flatK _ _ _ _ hj, Nat.zero_add]
    refine ⟨hB.cell ?_, hB.frozen⟩
    have h1 := flatA_get D j hj'
    rw [← z2, List.getElem?_take, if_pos (by omega)] at h1
    rw [h1]
    simp
   have hcmp : Go.Proofs.CmpLays Tryz.prog 73 #[] ecA 6 cfA blk 0 D.toArray.size w := fun m os dk hdk x y => by
    have hx := sortW_ext (w := w) ecA 6 blk m dk os
    refine ordW (Im := Im) (fun e he => ?_) (fun b hb => Nat.lt_of_lt_of_le (r.im b hb).1 hx.size) x y
    obtain ⟨h1, h2⟩ := r.lay e he
    have hne2 : e.1 ∉ [blk] := by
     simp only [List.mem_singleton]
     intro e'
     exact (r.im _ h1).2 (e' ▸ hlive)
    refine ⟨h1, Row.mono (μ := []) (μ' := []) (Im := fun b => b = e.1) (Im' := fun b => b = e.1) ⟨List.prefix_refl _, fun _ h => h, fun b hb => ?_⟩ h2 (fun _ => rfl)⟩
    subst hb
    exact hx.block _ (r.im _ h1).1 hne2
   have hcon := Go.Proofs.AnyQ.slices_SortFunc Tryz.sortA 6 isAggA sizeOfA ecA ecA_len ecA_one cfA swoA 73 #[] blk 0 cap D.toArray w Tryz.call73 hcmp hH hblk (by simpa [hDl] using hsz)
   rw [show D.toArray.size = l.length by simpa using hDl] at hcon
   refine Calls.mono hcon ?_
   rintro e w' ⟨rfl, d', n, os, hp, hs, rfl⟩
   obtain ⟨p1, -, p3⟩ := hp
   have hd'l : d'.size = l.length := by rw [p1]; simpa using hDl
   have hperm : d'.toList.Perm (Z.map (·.2)) := by
    have e1 : d'.extract 0 l.length = d' := by rw [← hd'l]; simp
    have e2 : D.toArray.extract 0 l.length = D.toArray := by rw [← hDl]; simp
    rw [e1, e2] at p3
    rw [← hD]
    simpa using p3
   obtain ⟨Z', q1, q2⟩ := perm_lift hperm Z rfl
   have hrep : ∀ z ∈ Z', z.2.1 = z.1.1 ∧ RepPs w Im (enP z.1.2) (vlA z.2.2) := fun z hz => z3 z (q1.mem_iff.1 hz)
   have hl' : Z'.map (·.1) = srtD l := by
    refine srtD_unique hn (by rw [← z1]; exact q1.map _) ?_
    rw [List.pairwise_map, List.pairwise_iff_getElem]
    intro i j hi hj hij
    have hZ'l : Z'.length = d'.size := by rw [← Array.length_toList, q2, List.length_map]
    have hs' := hs i j (Nat.zero_le _) hij (by omega)
    have gi : d'[i]! = (Z'[i]).2 := by
     rw [getElem!_pos d' i (by omega), ← Array.getElem_toList]
     simp only [q2, List.getElem_map]
    have gj : d'[j]! = (Z'[j]).2 := by
     rw [getElem!_pos d' j (by omega), ← Array.getElem_toList]
     simp only [q2, List.getElem_map]
    rw [gi, gj] at hs'
    have k1 := (hrep _ (List.getElem_mem hi)).1
    have k2 := (hrep _ (List.getElem_mem hj)).1
    simp only [Go.Proofs.ltOf, cfA, k1, k2, decide_eq_false_iff_not] at hs'
    simp only [leK, decide_eq_false hs', Bool.not_false]
   have hw := sortW_blk (w := w) (b := blk) (m := n) (D := Z'.map (·.2)) (os := os) hB (by rw [List.length_map, q1.length_eq, hZl]; exact hCl)
   rw [← q2] at hw
   have hd2 : d'.toList.toArray = d' := by simp
   rw [hd2] at hw
   have hx := sortW_ext (w := w) ecA 6 blk n d' os
   have hsl : (srtD l).length = l.length := (srtD_perm l).length_eq
   have hfl : ((d'.toList.map ecA).flatten).length = l.length * 6 := by
    have : ∀ D : List AtC, ((D.map ecA).flatten).length = D.length * 6 := fun D => by
     induction D with
     | nil => rfl
     | cons x D ih => simp only [List.map_cons, List.flatten_cons, List.length_append, ecA_len, ih, List.length_cons]; omega
    rw [this, Array.length_toList, hd'l]
   have hdl2 : d'.toList.length = l.length := by rw [Array.length_toList, hd'l]
   rw [hdl2] at hw
   have hCC : ((d'.toList.map ecA).flatten ++ C.drop (l.length * 6)).length = C.length := by
    rw [List.length_append, hfl, List.length_drop]
    omega
   have mn := mono_upd r (o := 0) (b := blk) (n := C.length) rfl hloc hx
   obtain ⟨r', s'⟩ := r.upd (o := 0) (ob' := .row 6 ((srtD l).map enA)) rfl hloc hx ⟨fun e he => by
    obtain ⟨y, _, rfl⟩ := List.mem_map.1 he
    exact enA_len y, .inr ⟨blk, _, by rw [hCC], hw, by rw [List.length_map, hsl, hCC]; exact hCl, fun i c p h1 h2 => by
    have hi : i < l.length * 6 := by
     have h3 := get_lt h2
     have : ((srtD l).map enA).flatten.length = ((srtD l).map enA).length * 6 := flat_len (fun e he => by
      obtain ⟨y, _, rfl⟩ := List.mem_map.1 he
      exact enA_len y)
     rw [this, List.length_map, hsl] at h3
     exact h3
    rw [List.getElem?_append_left (by omega)] at h1
    rw [q2] at h1
    rw [← hl'] at h2
    exact (rowD_back Z' hrep i c p h1 h2).mono mn⟩⟩
   exact ⟨_, rfl, .tup [], _, μ, Im, r', s'.toq (by rw [r.len]; exact Nat.le_refl _), by rw [r.len]; exact Nat.le_refl _, .tup (C := []) rfl (fun i u c h => by simp at h), rfl, rfl⟩
end Go.Proofs.YtdohmppildfjhaaGreatDoor
