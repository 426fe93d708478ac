import Derived.Test.YtdohmppildfjhaaGreatBb
import Derived.Test.YtdohmppildfjhaaGreatBa
import Derived.Test.YtdohmppildfjhaaGreatGe
namespace Go.Proofs.YtdohmppildfjhaaGreat
open Go.Eng Go.Vx
set_option linter.unusedSimpArgs false
set_option linter.unusedVariables false
set_option maxRecDepth 100000
def plAt (s : Nat) : Nat → PL
 | 0 => (0, 0, 0, 4 ^ s)
 | i + 1 => plN s (plAt s i)
theorem plAt_ok {s i : Nat} (hs : s = 1 ∨ s = 2) (hi : i ≤ 16) : (plAt s i).1 < 100000 ∧ (plAt s i).2.1 ≤ 30 ∧ (plAt s i).2.2.1 < 4294967296 ∧ (plAt s i).2.2.2 < 4294967296 := by
 have key : ∀ s ∈ [1, 2], ∀ i ∈ List.range 17, (plAt s i).1 < 100000 ∧ (plAt s i).2.1 ≤ 30 ∧ (plAt s i).2.2.1 < 4294967296 ∧ (plAt s i).2.2.2 < 4294967296 := by decide +kernel
 exact key s (by simp; omega) i (List.mem_range.2 (by omega))
def RpY (n s bp i : Nat) (W : World) (x : Pv) : Prop := n ≤ bp ∧ ∃ Im : Nat → Prop, (∀ b, Im b → n ≤ b ∧ b ≠ bp ∧ b < W.heap.size) ∧ RepV W Im [] (plV (plAt s i)) (.agg (pvC x))
theorem layY {w : World} {Im : Nat → Prop} : LayOk w Im := fun e he => by cases he
theorem relY {w : World} {Im : Nat → Prop} (h : ∀ b, Im b → b < w.heap.size) : Rel [] Im [] w := ⟨rfl, fun o ob h => by simp at h, fun o o' ob ob' b n n' h => by simp at h, fun b hb => ⟨h b hb, by simp [live]⟩, layY⟩
theorem rowY {w : World} {Im : Nat → Prop} {μ : Mu} {l : List (List PV)} {c : Value} (h : RepV w Im μ (.row 1 l) c) : ∃ a n k, c = .slice a n k := by
 cases h with
 | row h => cases h; exact ⟨_, _, _, rfl⟩
theorem litY {w : World} {Im : Nat → Prop} {μ : Mu} {x : Value} {c : Value} (h : RepV w Im μ (.lit x) c) : c = x := by
 cases h; rfl
theorem plY {w : World} {Im : Nat → Prop} {μ : Mu} {p : PL} {v : Value} (h : RepV w Im μ (plV p) v) : ∃ x : Pv, v = .agg (pvC x) ∧ RepV w Im [] (plV p) v := by
 unfold plV at h ⊢
 cases h with
 | @agg l C hn ho hr =>
  match C, hn with
  | [a, b, c, d], _ =>
   obtain rfl := litY (hr 0 _ _ rfl rfl)
   obtain rfl := litY (hr 1 _ _ rfl rfl)
   have r2 := hr 2 _ _ rfl rfl
   have r3 := hr 3 _ _ rfl rfl
   obtain ⟨a2, n2, k2, rfl⟩ := rowY r2
   obtain ⟨a3, n3, k3, rfl⟩ := rowY r3
   refine ⟨((p.1, p.2.1), (a2, n2, k2), (a3, n3, k3)), rfl, .agg rfl (by simp [oneC]) fun i u c hu hc => ?_⟩
   match i, hu, hc with
   | 0, hu, hc => cases hu; cases hc; exact .lit rfl
   | 1, hu, hc => cases hu; cases hc; exact .lit rfl
   | 2, hu, hc => cases hu; cases hc; cases r2 with | row h => exact .row h
   | 3, hu, hc => cases hu; cases hc; cases r3 with | row h => exact .row h
theorem extY {w w' : World} (h : Ext (live [] []) w w') : WSame w w' ∧ w.heap.size ≤ w'.heap.size ∧ ∀ b, b < w.heap.size → w'.heap[b]? = w.heap[b]? :=
 ⟨⟨h.os, h.tape, h.output, h.dr⟩, h.size, fun b hb => h.block b hb (by simp [live])⟩
theorem yAt_fn {s K : Nat} (hs : s = 1 ∨ s = 2) (hK : K ≤ 15) : Fn1 Tryz.prog 186 [.lit (.int .i64 (s : Int)), .lit (.int .i64 (K : Int))] [] (.tup [plV (plAt s K), .lit (.int .i64 0)]) [] := by
 refine ⟨Tryz.call186, fun μ Im w args r hl => ?_⟩
 obtain ⟨a, l1, rfl, ha, hl⟩ := hl.uncons
 obtain ⟨b, l2, rfl, hb, hl⟩ := hl.uncons
 have : l2 = [] := List.length_eq_zero_iff.1 (by simpa using hl.1)
 subst this
 obtain rfl := litY ha
 obtain rfl := litY hb
 have hμ : μ = [] := List.length_eq_zero_iff.1 (by rw [r.len]; rfl)
 subst hμ
 have main := at_in (K := K) (s := (s : Int)) (c := ((4 ^ s : Nat) : Int)) (by rcases hs with rfl | rfl; exact .inl ⟨rfl, rfl⟩; exact .inr ⟨rfl, rfl⟩) hK w (RpY (w.heap.size + 6) s) (fun W b n hc hb => ?_) (fun bp i W W' x h hz hk => ?_) (fun bp i W x n h hi hbp => ?_)
 ·
  refine Calls.mono (callsIn_wide.1 main) ?_
  rintro e w' ⟨bp, x, rfl, ⟨-, Im', hIm, hR⟩, hrs, hz, hold⟩
  have hext : Ext [] w w' := ⟨hrs.1, hrs.2.1, hrs.2.2.1, hrs.2.2.2, hz, fun b hb _ => hold b hb⟩
  have hmono : ∀ b, Im b → b < w.heap.size := fun b hb => (r.im b hb).1
  refine ⟨_, rfl, .tup [plV (plAt s K), .lit (.int .i64 0)], [], [], fun b => Im b ∨ Im' b, relY fun b hb => ?_, ⟨fun i hi => (by simp at hi), fun b hb => .inl hb, hext.mono (by simp), fun b hb => (by simp [live] at hb), fun b hb => ?_⟩, Nat.le_refl _, ?_, rfl, rfl⟩
  ·
   rcases hb with hb | hb
   ·
    have := hmono b hb; omega
   ·
    exact (hIm b hb).2.2
  ·
   rcases hb with hb | hb
   ·
    exact .inl hb
   ·
    exact .inr (.inr (by have := (hIm b hb).1; omega))
  ·
   refine .tup (C := [.agg (pvC x), .int .i64 0]) rfl fun i u c hu hc => ?_
   match i, hu, hc with
   | 0, hu, hc => cases hu; cases hc; exact hR.mono ⟨List.prefix_refl _, fun _ h => .inr h, fun _ _ => rfl⟩
   | 1, hu, hc => cases hu; cases hc; exact .lit rfl
 ·
  refine callsIn_wide.2 ?_
  have hb2 : b < W.heap.size := by
   unfold World.cell? at hc
   rcases Nat.lt_or_ge b W.heap.size with h | h
   ·
    exact h
   ·
    simp [Array.getElem?_eq_none h] at hc
  have sp := of1_fn (x := 4 ^ s) (by rcases hs with rfl | rfl <;> decide)
  have hrow : Row W (some ⟨b, 0, none⟩) [.int .u64 ((4 ^ s : Nat) : Int)] := ⟨fun _ => rfl, fun i hi => by
   have : i = 0 := by simpa using hi
   subst this
   exact hc⟩
  refine Calls.mono (sp.2 [] (fun x => x = b) W [.slice (some ⟨b, 0, none⟩) 1 1] (relY fun x hx => by rw [hx]; exact hb2) (.cons (.row (.row (C := [.int .u64 ((4 ^ s : Nat) : Int)]) rfl (Nat.le_refl _) (by simp) hrow (fun _ => rfl) rfl (by simp [oneC]) fun i c p h1 h2 => ?_)) .nil)) ?_
  ·
   match i, h1, h2 with
   | 0, h1, h2 =>
    cases h1
    simp at h2
    subst h2
    exact .lit rfl
  ·
   rintro e w' ⟨v, rfl, u, σ', μ', Im', r', st, -, hv, rfl, rfl⟩
   obtain ⟨q1, q2, q3⟩ := extY st.ext
   unfold NV at hv
   cases hv with
   | @agg l C hn ho hr =>
    match C, hn with
    | [c], _ =>
     have rc := hr 0 _ _ rfl rfl
     obtain ⟨a, m, k, rfl⟩ := rowY rc
     refine ⟨(a, m, k), rfl, ⟨q1, q2, q3⟩, by omega, Im', fun x hx => ⟨?_, Nat.ne_of_lt (r'.im x hx).1, (r'.im x hx).1⟩, ?_⟩
     ·
      rcases st.fresh x hx with h | h | h
      ·
       rw [h]; exact hb
      ·
       simp [live] at h
      ·
       omega
     ·
      unfold plV
      rw [show (nl (wg (plAt s 0).2.2.1)).map (ie .u64) = [] from by show (nl (wg 0)).map _ = _; rw [wg_zero]; rfl]
      refine .agg (C := [.int .i64 0, .int .i64 0, .slice none 0 0, .slice a m k]) rfl (by simp [oneC]) fun i u c hu hc => ?_
      match i, hu, hc with
      | 0, hu, hc => cases hu; cases hc; exact .lit rfl
      | 1, hu, hc => cases hu; cases hc; exact .lit rfl
      | 2, hu, hc => cases hu; cases hc; exact .row (.row (C := []) rfl (Nat.le_refl _) (by simp) (Row.nil _ _) (fun h => absurd rfl h) (by simp) (by simp) (by simp))
      | 3, hu, hc => cases hu; cases hc; cases rc with | row h => exact .row h
 ·
  obtain ⟨hnb, Im', hIm, hR⟩ := h
  refine ⟨hnb, Im', fun b hb => ⟨(hIm b hb).1, (hIm b hb).2.1, by have := (hIm b hb).2.2; omega⟩, hR.mono ⟨List.prefix_refl _, fun _ h => h, fun b hb => hk b (hIm b hb).1 (hIm b hb).2.1 (hIm b hb).2.2⟩⟩
 ·
  refine callsIn_wide.2 ?_
  obtain ⟨hnb, Im', hIm, hR⟩ := h
  obtain ⟨o1, o2, o3, o4⟩ := plAt_ok (i := i) hs (by omega)
  have sp := ynext_fn (s := s) (x := plAt s i) (by omega) o1 o2 o3 o4
  refine Calls.mono (sp.2 [] Im' W [.agg (pvC x), .int .i64 (s : Int)] (relY fun b hb => (hIm b hb).2.2) (.cons hR (.cons (.lit rfl) .nil))) ?_
  rintro e w' ⟨v, rfl, u, σ', μ', Im2, r', st, -, hv, rfl, rfl⟩
  obtain ⟨q1, q2, q3⟩ := extY st.ext
  obtain ⟨y, rfl, hy⟩ := plY hv
  refine ⟨y, rfl, ⟨q1, q2, q3⟩, hnb, Im2, fun b hb => ?_, hy⟩
  rcases st.fresh b hb with h | h | h
  ·
   exact ⟨(hIm b h).1, (hIm b h).2.1, (r'.im b hb).1⟩
  ·
   simp [live] at h
  ·
   exact ⟨by omega, by omega, (r'.im b hb).1⟩
end Go.Proofs.YtdohmppildfjhaaGreat

namespace Go.Proofs.YtdohmppildfjhaaGreat
open Go.Eng Go.Vx
set_option linter.unusedSimpArgs false
set_option linter.unusedVariables false
set_option maxRecDepth 100000
def cfA (x y : AtC) : Int := ordK x.1 y.1
theorem swoA : Go.Sort.SWO (Go.Proofs.ltOf cfA) where
 irrefl x := by
  simp only [Go.Proofs.ltOf, cfA, decide_eq_false_iff_not, ordK_lt]
  omega
 trans x y z h1 h2 := by
  simp only [Go.Proofs.ltOf, cfA, decide_eq_true_eq, ordK_lt] at *
  omega
 ntrans x y z h1 h2 := by
  simp only [Go.Proofs.ltOf, cfA, decide_eq_false_iff_not, ordK_lt] at *
  omega
theorem ordW {W : World} {Im : Nat → Prop} (hlay : LayOk W Im) (him : ∀ b, Im b → b < W.heap.size) (x y : AtC) :
  Calls Tryz.prog 58 (#[.agg (ecA x).toArray, .agg (ecA y).toArray] ++ #[]) W fun e w' => e = .returned (.int .i64 (cfA x y)) ∧ ∃ q os', w' = Go.Sort.grow (W.drewN q) os' := by
 have sp := porder_fn (k := x.1) (k' := y.1) (v1 := .lit (.slice x.2.1.1 x.2.1.2.1 x.2.1.2.2)) (v2 := .lit (.bool x.2.2.1)) (v3 := .lit (.slice x.2.2.2.1 x.2.2.2.2.1 x.2.2.2.2.2)) (u1 := .lit (.slice y.2.1.1 y.2.1.2.1 y.2.1.2.2)) (u2 := .lit (.bool y.2.2.1)) (u3 := .lit (.slice y.2.2.2.1 y.2.2.2.2.1 y.2.2.2.2.2))
 have r0 : Rel [] Im [] W := ⟨rfl, fun o ob h => by simp at h, fun o o' ob ob' b n n' h => by simp at h, fun b hb => ⟨him b hb, by simp [live]⟩, hlay⟩
 have hag : ∀ z : AtC, RepV W Im [] (.agg [.lit (.int .i64 z.1.1), .lit (.int .i64 z.1.2.1), .lit (.bool z.1.2.2), .lit (.slice z.2.1.1 z.2.1.2.1 z.2.1.2.2), .lit (.bool z.2.2.1), .lit (.slice z.2.2.2.1 z.2.2.2.2.1 z.2.2.2.2.2)]) (.agg (ecA z).toArray) := fun z =>
  .agg (C := ecA z) rfl (by simp [ecA, vlA, oneC]) (RepL.cons (.lit rfl) (.cons (.lit rfl) (.cons (.lit rfl) (.cons (.lit rfl) (.cons (.lit rfl) (.cons (.lit rfl) .nil)))))).2
 rw [Array.append_empty]
 refine Calls.mono (sp.2 [] Im W [.agg (ecA x).toArray, .agg (ecA y).toArray] r0 (.cons (hag x) (.cons (hag y) .nil))) ?_
 rintro e w' ⟨v, rfl, u, σ', μ', Im', r', st, -, hv, rfl, rfl⟩
 cases hv
 exact ⟨rfl, ext_grow (st.ext.mono (by simp [live]))⟩
theorem isAggA : ∀ w, (isAgg (Tryz.sortA_ren.t 24)).run Tryz.prog w = .ok true w := Tryz.isAgg94
theorem sizeOfA : ∀ w, (Go.sizeOf (Tryz.sortA_ren.t 24)).run Tryz.prog w = .ok 6 w := Tryz.sizeOf94
set_option maxHeartbeats 2000000 in
theorem psort_fn {l : Ds} (hn : ndK l) (hne : l ≠ []) (hsz : l.length < 4611686018427387904) :
  Fn1 Tryz.prog 57 [.sl 0 6 0 l.length, .clo 58 []] [some (.row 6 (l.map enA))] (.tup []) [some (.row 6 ((srtD l).map enA))] := by
 refine ⟨Tryz.call57, fun μ Im w args r hl => ?_⟩
 obtain ⟨a, l1, rfl, ha, hl⟩ := hl.uncons
 obtain ⟨b, l2, rfl, hb, hl⟩ := hl.uncons
 have : l2 = [] := List.length_eq_zero_iff.1 (by simpa using hl.1)
 subst this
 obtain ⟨loc, hloc, hz, hO⟩ := r.rep 0 (.row 6 (l.map enA)) rfl
 have hpos : 0 < l.length := List.length_pos_iff.2 hne
 rcases hO with ⟨_, e⟩ | ⟨blk, C, rfl, hB, hCl, hr⟩
 ·
  exact absurd (List.map_eq_nil_iff.1 e) hne
 rw [List.length_map] at hCl
 cases ha with
 | @sl _ _ _ _ cap a hs =>
  rw [hloc] at hs
  obtain ⟨hlc, ha, hn2⟩ := hs
  have ha' := ha (.inl hpos)
  subst ha'
  cases hb with
  | @clo _ _ Cb hcn hcr =>
   have : Cb = [] := List.length_eq_zero_iff.1 (by simpa using hcn)
   subst this
   obtain ⟨Z, z1, z2, z3⟩ := rowD_ex l C hCl hr
   have hZl : Z.length = l.length := by rw [← z1, List.length_map]
   obtain ⟨D, hD⟩ : ∃ D, D = Z.map (·.2) := ⟨_, rfl⟩
   have hDl : D.length = l.length := by rw [hD, List.length_map, hZl]
   rw [← hD] at z2
   have hblk := hB.lt
   have hlive : blk ∈ live μ [some (Ob.row 6 (l.map enA))] := mem_live.2 ⟨0, C.length, _, hloc, rfl⟩
   have hH : Go.Sort.HoldsK ecA 6 w blk 0 D.toArray := fun j hj => by
    rw [Go.Sort.size_flatK] at hj
    have hj' : j < D.length * 6 := by simpa using hj
    rw [Go.Sort.get_flatK _ _ _ _ hj, Nat.zero_add]
    refine ⟨hB.cell ?_, hB.frozen⟩
    have h1 := flatA_get D j hj'
    rw [← z2, List.getElem?_take, if_pos (by omega)] at h1
    rw [h1]
    simp
   have hcmp : Go.Proofs.CmpLays Tryz.prog 58 #[] ecA 6 cfA blk 0 D.toArray.size w := fun m os dk hdk x y => by
    have hx := sortW_ext (w := w) ecA 6 blk m dk os
    refine ordW (Im := Im) (fun e he => ?_) (fun b hb => Nat.lt_of_lt_of_le (r.im b hb).1 hx.size) x y
    obtain ⟨h1, h2⟩ := r.lay e he
    have hne2 : e.1 ∉ [blk] := by
     simp only [List.mem_singleton]
     intro e'
     exact (r.im _ h1).2 (e' ▸ hlive)
    refine ⟨h1, Row.mono (μ := []) (μ' := []) (Im := fun b => b = e.1) (Im' := fun b => b = e.1) ⟨List.prefix_refl _, fun _ h => h, fun b hb => ?_⟩ h2 (fun _ => rfl)⟩
    subst hb
    exact hx.block _ (r.im _ h1).1 hne2
   have hcon := Go.Proofs.AnyQ.slices_SortFunc Tryz.sortA 6 isAggA sizeOfA ecA ecA_len ecA_one cfA swoA 58 #[] blk 0 cap D.toArray w Tryz.call58 hcmp hH hblk (by simpa [hDl] using hsz)
   rw [show D.toArray.size = l.length by simpa using hDl] at hcon
   refine Calls.mono hcon ?_
   rintro e w' ⟨rfl, d', n, os, hp, hs, rfl⟩
   obtain ⟨p1, -, p3⟩ := hp
   have hd'l : d'.size = l.length := by rw [p1]; simpa using hDl
   have hperm : d'.toList.Perm (Z.map (·.2)) := by
    have e1 : d'.extract 0 l.length = d' := by rw [← hd'l]; simp
    have e2 : D.toArray.extract 0 l.length = D.toArray := by rw [← hDl]; simp
    rw [e1, e2] at p3
    rw [← hD]
    simpa using p3
   obtain ⟨Z', q1, q2⟩ := perm_lift hperm Z rfl
   have hrep : ∀ z ∈ Z', z.2.1 = z.1.1 ∧ RepPs w Im (enP z.1.2) (vlA z.2.2) := fun z hz => z3 z (q1.mem_iff.1 hz)
   have hl' : Z'.map (·.1) = srtD l := by
    refine srtD_unique hn (by rw [← z1]; exact q1.map _) ?_
    rw [List.pairwise_map, List.pairwise_iff_getElem]
    intro i j hi hj hij
    have hZ'l : Z'.length = d'.size := by rw [← Array.length_toList, q2, List.length_map]
    have hs' := hs i j (Nat.zero_le _) hij (by omega)
    have gi : d'[i]! = (Z'[i]).2 := by
     rw [getElem!_pos d' i (by omega), ← Array.getElem_toList]
     simp only [q2, List.getElem_map]
    have gj : d'[j]! = (Z'[j]).2 := by
     rw [getElem!_pos d' j (by omega), ← Array.getElem_toList]
     simp only [q2, List.getElem_map]
    rw [gi, gj] at hs'
    have k1 := (hrep _ (List.getElem_mem hi)).1
    have k2 := (hrep _ (List.getElem_mem hj)).1
    simp only [Go.Proofs.ltOf, cfA, k1, k2, decide_eq_false_iff_not] at hs'
    simp only [leK, decide_eq_false hs', Bool.not_false]
   have hw := sortW_blk (w := w) (b := blk) (m := n) (D := Z'.map (·.2)) (os := os) hB (by rw [List.length_map, q1.length_eq, hZl]; exact hCl)
   rw [← q2] at hw
   have hd2 : d'.toList.toArray = d' := by simp
   rw [hd2] at hw
   have hx := sortW_ext (w := w) ecA 6 blk n d' os
   have hsl : (srtD l).length = l.length := (srtD_perm l).length_eq
   have hfl : ((d'.toList.map ecA).flatten).length = l.length * 6 := by
    have : ∀ D : List AtC, ((D.map ecA).flatten).length = D.length * 6 := fun D => by
     induction D with
     | nil => rfl
     | cons x D ih => simp only [List.map_cons, List.flatten_cons, List.length_append, ecA_len, ih, List.length_cons]; omega
    rw [this, Array.length_toList, hd'l]
   have hdl2 : d'.toList.length = l.length := by rw [Array.length_toList, hd'l]
   rw [hdl2] at hw
   have hCC : ((d'.toList.map ecA).flatten ++ C.drop (l.length * 6)).length = C.length := by
    rw [List.length_append, hfl, List.length_drop]
    omega
   have mn := mono_upd r (o := 0) (b := blk) (n := C.length) rfl hloc hx
   obtain ⟨r', s'⟩ := r.upd (o := 0) (ob' := .row 6 ((srtD l).map enA)) rfl hloc hx ⟨fun e he => by
    obtain ⟨y, _, rfl⟩ := List.mem_map.1 he
    exact enA_len y, .inr ⟨blk, _, by rw [hCC], hw, by rw [List.length_map, hsl, hCC]; exact hCl, fun i c p h1 h2 => by
    have hi : i < l.length * 6 := by
     have h3 := get_lt h2
     have : ((srtD l).map enA).flatten.length = ((srtD l).map enA).length * 6 := flat_len (fun e he => by
      obtain ⟨y, _, rfl⟩ := List.mem_map.1 he
      exact enA_len y)
     rw [this, List.length_map, hsl] at h3
     exact h3
    rw [List.getElem?_append_left (by omega)] at h1
    rw [q2] at h1
    rw [← hl'] at h2
    exact (rowD_back Z' hrep i c p h1 h2).mono mn⟩⟩
   exact ⟨_, rfl, .tup [], _, μ, Im, r', s'.toq (by rw [r.len]; exact Nat.le_refl _), by rw [r.len]; exact Nat.le_refl _, .tup (C := []) rfl (fun i u c h => by simp at h), rfl, rfl⟩
end Go.Proofs.YtdohmppildfjhaaGreat
