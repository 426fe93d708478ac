import Derived.Test.YtdohmppildfjhaaGreatDoorBb
import Derived.Test.YtdohmppildfjhaaGreatDoorBa
import Derived.Test.YtdohmppildfjhaaGreatDoorGe
import Derived.Test.YtdohmppildfjhaaGreatDoorKc
import Derived.Test.YtdohmppildfjhaaGreatDoorGa
namespace Go.Proofs.YtdohmppildfjhaaGreatDoor
open Go.Eng Go.Vx
set_option linter.unusedSimpArgs false
set_option linter.unusedVariables false
set_option maxRecDepth 100000
def plAt (s : Nat) : Nat → PL
 | 0 => (0, 0, 0, 4 ^ s)
 | i + 1 => plN s (plAt s i)
theorem plAt_ok {s i : Nat} (hs : s = 1 ∨ s = 2) (hi : i ≤ 16) : (plAt s i).1 < 100000 ∧ (plAt s i).2.1 ≤ 30 ∧ (plAt s i).2.2.1 < 4294967296 ∧ (plAt s i).2.2.2 < 4294967296 := by
 have key : ∀ s ∈ [1, 2], ∀ i ∈ List.range 17, (plAt s i).1 < 100000 ∧ (plAt s i).2.1 ≤ 30 ∧ (plAt s i).2.2.1 < 4294967296 ∧ (plAt s i).2.2.2 < 4294967296 := by decide +kernel
 exact key s (by simp; omega) i (List.mem_range.2 (by omega))
def RpY (w : World) (I0 : Nat → Prop) (s bp i : Nat) (W : World) (x : Pv) : Prop := w.heap.size + 6 ≤ bp ∧ (∀ b, b < w.heap.size → W.heap[b]? = w.heap[b]?) ∧ ∃ Im : Nat → Prop, (∀ b, Im b → (w.heap.size + 6 ≤ b ∨ I0 b) ∧ b ≠ bp ∧ b < W.heap.size) ∧ RepV W Im [] (plV (plAt s i)) (.agg (pvC x))
theorem relY {w : World} {Im : Nat → Prop} (h : ∀ b, Im b → b < w.heap.size) (hlay : LayOk w Im) : Rel [] Im [] w := ⟨rfl, fun o ob h => by simp at h, fun o o' ob ob' b n n' h => by simp at h, fun b hb => ⟨h b hb, by simp [live]⟩, hlay⟩
theorem rowY {w : World} {Im : Nat → Prop} {μ : Mu} {l : List (List PV)} {c : Value} (h : RepV w Im μ (.row 1 l) c) : ∃ a n k, c = .slice a n k := by
 cases h with
 | row h => cases h; exact ⟨_, _, _, rfl⟩
theorem litY {w : World} {Im : Nat → Prop} {μ : Mu} {x : Value} {c : Value} (h : RepV w Im μ (.lit x) c) : c = x := by
 cases h; rfl
theorem plY {w : World} {Im : Nat → Prop} {μ : Mu} {p : PL} {v : Value} (h : RepV w Im μ (plV p) v) : ∃ x : Pv, v = .agg (pvC x) ∧ RepV w Im [] (plV p) v := by
 unfold plV at h ⊢
 cases h with
 | @agg l C hn ho hr =>
  match C, hn with
  | [a, b, c, d], _ =>
   obtain rfl := litY (hr 0 _ _ rfl rfl)
   obtain rfl := litY (hr 1 _ _ rfl rfl)
   have r2 := hr 2 _ _ rfl rfl
   have r3 := hr 3 _ _ rfl rfl
   obtain ⟨a2, n2, k2, rfl⟩ := rowY r2
   obtain ⟨a3, n3, k3, rfl⟩ := rowY r3
   refine ⟨((p.1, p.2.1), (a2, n2, k2), (a3, n3, k3)), rfl, .agg rfl (by simp [oneC]) fun i u c hu hc => ?_⟩
   match i, hu, hc with
   | 0, hu, hc => cases hu; cases hc; exact .lit rfl
   | 1, hu, hc => cases hu; cases hc; exact .lit rfl
   | 2, hu, hc => cases hu; cases hc; cases r2 with | row h => exact .row h
   | 3, hu, hc => cases hu; cases hc; cases r3 with | row h => exact .row h
theorem extY {w w' : World} (h : Ext (live [] []) w w') : WSame w w' ∧ w.heap.size ≤ w'.heap.size ∧ ∀ b, b < w.heap.size → w'.heap[b]? = w.heap[b]? :=
 ⟨⟨h.os, h.tape, h.output, h.dr⟩, h.size, fun b hb => h.block b hb (by simp [live])⟩
theorem yAt_fn {s K : Nat} (hs : s = 1 ∨ s = 2) (hK : K ≤ 15) : Fn1 Tryz.prog 207 [.lit (.int .i64 (s : Int)), .lit (.int .i64 (K : Int))] [] (.tup [plV (plAt s K), .lit (.int .i64 0)]) [] := by
 refine ⟨Tryz.call207, fun μ Im w args r hl => ?_⟩
 obtain ⟨a, l1, rfl, ha, hl⟩ := hl.uncons
 obtain ⟨b, l2, rfl, hb, hl⟩ := hl.uncons
 have : l2 = [] := List.length_eq_zero_iff.1 (by simpa using hl.1)
 subst this
 obtain rfl := litY ha
 obtain rfl := litY hb
 have hμ : μ = [] := List.length_eq_zero_iff.1 (by rw [r.len]; rfl)
 subst hμ
 have hmono : ∀ b, Im b → b < w.heap.size := fun b hb => (r.im b hb).1
 have hlay : ∀ {W : World} {I : Nat → Prop}, (∀ b, b < w.heap.size → W.heap[b]? = w.heap[b]?) → (∀ b, Im b → I b) → LayOk W I := fun h1 h2 => r.lay.mono (μ := []) (μ' := []) ⟨List.prefix_refl _, h2, fun b hb => h1 b (hmono b hb)⟩
 have main := at_in (K := K) (s := (s : Int)) (c := ((4 ^ s : Nat) : Int)) (by rcases hs with rfl | rfl; exact .inl ⟨rfl, rfl⟩; exact .inr ⟨rfl, rfl⟩) hK w (RpY w Im s) (fun W b n hov hc hb => ?_) (fun bp i W W' x h hz hk ho => ?_) (fun bp i W x n h hi hbp => ?_)
 ·
  refine Calls.mono (callsIn_wide.1 main) ?_
  rintro e w' ⟨bp, x, rfl, ⟨-, -, Im', hIm, hR⟩, hrs, hz, hold⟩
  have hext : Ext [] w w' := ⟨hrs.1, hrs.2.1, hrs.2.2.1, hrs.2.2.2, hz, fun b hb _ => hold b hb⟩
  refine ⟨_, rfl, .tup [plV (plAt s K), .lit (.int .i64 0)], [], [], fun b => Im b ∨ Im' b, relY (fun b hb => ?_) (hlay hold fun _ h => .inl h), ⟨fun i hi => (by simp at hi), fun b hb => .inl hb, hext.mono (by simp), fun b hb => (by simp [live] at hb), fun b hb => ?_⟩, Nat.le_refl _, ?_, rfl, rfl⟩
  ·
   rcases hb with hb | hb
   ·
    have := hmono b hb; omega
   ·
    exact (hIm b hb).2.2
  ·
   rcases hb with hb | hb
   ·
    exact .inl hb
   ·
    rcases (hIm b hb).1 with h | h
    ·
     exact .inr (.inr (by omega))
    ·
     exact .inl h
  ·
   refine .tup (C := [.agg (pvC x), .int .i64 0]) rfl fun i u c hu hc => ?_
   match i, hu, hc with
   | 0, hu, hc => cases hu; cases hc; exact hR.mono ⟨List.prefix_refl _, fun _ h => .inr h, fun _ _ => rfl⟩
   | 1, hu, hc => cases hu; cases hc; exact .lit rfl
 ·
  refine callsIn_wide.2 ?_
  have hb2 : b < W.heap.size := by
   unfold World.cell? at hc
   rcases Nat.lt_or_ge b W.heap.size with h | h
   ·
    exact h
   ·
    simp [Array.getElem?_eq_none h] at hc
  have sp := of1_fn (x := 4 ^ s) (by rcases hs with rfl | rfl <;> decide)
  have hrow : Row W (some ⟨b, 0, none⟩) [.int .u64 ((4 ^ s : Nat) : Int)] := ⟨fun _ => rfl, fun i hi => by
   have : i = 0 := by simpa using hi
   subst this
   exact hc⟩
  refine Calls.mono (sp.2 [] (fun x => x = b ∨ Im x) W [.slice (some ⟨b, 0, none⟩) 1 1] (relY (fun x hx => hx.elim (fun e => by rw [e]; exact hb2) fun h => by have := hmono x h; omega) (hlay hov fun _ h => .inr h)) (.cons (.row (.row (C := [.int .u64 ((4 ^ s : Nat) : Int)]) rfl (Nat.le_refl _) (by simp) hrow (fun _ => .inl rfl) rfl (by simp [oneC]) fun i c p h1 h2 => ?_)) .nil)) ?_
  ·
   match i, h1, h2 with
   | 0, h1, h2 =>
    cases h1
    simp at h2
    subst h2
    exact .lit rfl
  ·
   rintro e w' ⟨v, rfl, u, σ', μ', Im', r', st, -, hv, rfl, rfl⟩
   obtain ⟨q1, q2, q3⟩ := extY st.ext
   unfold NV at hv
   cases hv with
   | @agg l C hn ho hr =>
    match C, hn with
    | [c], _ =>
     have rc := hr 0 _ _ rfl rfl
     obtain ⟨a, m, k, rfl⟩ := rowY rc
     refine ⟨(a, m, k), rfl, ⟨q1, q2, q3⟩, by omega, fun b hb => by rw [q3 b (by omega), hov b hb], Im', fun x hx => ⟨?_, Nat.ne_of_lt (r'.im x hx).1, (r'.im x hx).1⟩, ?_⟩
     ·
      rcases st.fresh x hx with (h | h) | h | h
      ·
       rw [h]; exact .inl hb
      ·
       exact .inr h
      ·
       simp [live] at h
      ·
       exact .inl (by omega)
     ·
      unfold plV
      rw [show (nl (wg (plAt s 0).2.2.1)).map (ie .u64) = [] from by show (nl (wg 0)).map _ = _; rw [wg_zero]; rfl]
      refine .agg (C := [.int .i64 0, .int .i64 0, .slice none 0 0, .slice a m k]) rfl (by simp [oneC]) fun i u c hu hc => ?_
      match i, hu, hc with
      | 0, hu, hc => cases hu; cases hc; exact .lit rfl
      | 1, hu, hc => cases hu; cases hc; exact .lit rfl
      | 2, hu, hc => cases hu; cases hc; exact .row (.row (C := []) rfl (Nat.le_refl _) (by simp) (Row.nil _ _) (fun h => absurd rfl h) (by simp) (by simp) (by simp))
      | 3, hu, hc => cases hu; cases hc; cases rc with | row h => exact .row h
 ·
  obtain ⟨hnb, hol, Im', hIm, hR⟩ := h
  refine ⟨hnb, ho, Im', fun b hb => ⟨(hIm b hb).1, (hIm b hb).2.1, by have := (hIm b hb).2.2; omega⟩, hR.mono ⟨List.prefix_refl _, fun _ h => h, fun b hb => ?_⟩⟩
  rcases (hIm b hb).1 with h | h
  ·
   exact hk b h (hIm b hb).2.1 (hIm b hb).2.2
  ·
   rw [ho b (hmono b h), hol b (hmono b h)]
 ·
  refine callsIn_wide.2 ?_
  obtain ⟨hnb, hol, Im', hIm, hR⟩ := h
  obtain ⟨o1, o2, o3, o4⟩ := plAt_ok (i := i) hs (by omega)
  have sp := ynext_fn (s := s) (x := plAt s i) (by omega) o1 o2 o3 o4
  refine Calls.mono (sp.2 [] (fun b => Im' b ∨ Im b) W [.agg (pvC x), .int .i64 (s : Int)] (relY (fun b hb => ?_) (hlay hol fun _ h => .inr h)) (.cons (hR.mono ⟨List.prefix_refl _, fun _ h => .inl h, fun _ _ => rfl⟩) (.cons (.lit rfl) .nil))) ?_
  ·
   rcases hb with hb | hb
   ·
    exact (hIm b hb).2.2
   ·
    have := hmono b hb; omega
  rintro e w' ⟨v, rfl, u, σ', μ', Im2, r', st, -, hv, rfl, rfl⟩
  obtain ⟨q1, q2, q3⟩ := extY st.ext
  obtain ⟨y, rfl, hy⟩ := plY hv
  refine ⟨y, rfl, ⟨q1, q2, q3⟩, hnb, fun b hb => by rw [q3 b (by omega), hol b hb], Im2, fun b hb => ?_, hy⟩
  rcases st.fresh b hb with (h | h) | h | h
  ·
   exact ⟨(hIm b h).1, (hIm b h).2.1, (r'.im b hb).1⟩
  ·
   exact ⟨.inr h, by have := hmono b h; omega, (r'.im b hb).1⟩
  ·
   simp [live] at h
  ·
   exact ⟨.inl (by omega), by omega, (r'.im b hb).1⟩
def smallG (k a w : Nat) : Prop := (k = 1 ∧ 1 ≤ a ∧ a ≤ 4 ∨ k = 2 ∧ a ≤ 1 ∨ k = 3 ∧ 1 ≤ a ∧ a ≤ 2) ∧ 1 ≤ w ∧ w ≤ 4
theorem smallG_good {k a w : Nat} (h : smallG k a w) : goodN k a w ∧ k ≠ 4 := by
 obtain ⟨h, h1, h2⟩ := h
 refine ⟨?_, by omega⟩
 unfold goodN
 rcases h with ⟨rfl, h3, h4⟩ | ⟨rfl, h4⟩ | ⟨rfl, h3, h4⟩
 ·
  refine .inl ⟨rfl, h3, by omega, h1, by omega, ?_⟩
  have hb := bl_le_of (n := a + 1) (k := 3) (by omega)
  have hp : 2 ^ w - 1 ≤ 15 := by
   have : 2 ^ w ≤ 2 ^ 4 := Nat.pow_le_pow_right (by decide) h2
   omega
  have := Nat.mul_le_mul hb hp
  omega
 ·
  exact .inr (.inl ⟨rfl, by omega, h1, by omega⟩)
 ·
  exact .inr (.inr (.inl ⟨rfl, h3, by omega, h1, by omega⟩))
def quo (p q : Nat) : Rat := (((p : Nat) : Int) : Rat) / (((q : Nat) : Int) : Rat)
def chX (k a K : Nat) : Rat := if k = 1 then quo a (a + 1) ^ K else if k = 2 then hf (K / 2 ^ a) else hf (plAt a K).2.1
def vlX (k a K : Nat) : Rat := if k = 1 then (((a : Nat) : Int) : Rat) * (quo (a + 1) a ^ K - 1) else if k = 2 then ((((2 ^ a + K % 2 ^ a) * 2 ^ (K / 2 ^ a) - 2 ^ a : Nat) : Int) : Rat) else (((plAt a K).2.2.1 : Nat) : Int)
theorem gmwrong_fn {a k : Int} (ha : 1 ≤ a) (ha2 : a ≤ 4096) (hk : 0 ≤ k) (hk2 : k ≤ 1023) : Fn1 Tryz.prog 185 [.lit (.int .i64 a), .row 1 [[.lit (.int .i64 k)]]] [] (.lit (.int .i64 0)) [] := by
 have g := mgood_fn (a := a)
 rw [decide_eq_true ⟨ha, ha2⟩] at g
 refine fn1N_of pl185 (by kernel_rfl) Tryz.call185 Tryz.func185 rfl (by kernel_rfl) rfl [.tmp 4] (by kernel_rfl) fun Q hQ => ?_
 refine runW ?_
 refine callV0 (g) rfl rfl ?_
 refine runW ?_
 refine loopW (X := Nat) (st := fun i => ([(10, .row 1 [[.lit (.int .i64 k)]]), (11, .lit (.int .i64 1)), (12, .lit (.int .i64 (i : Int)))], [])) (inv := fun i => i = 0 ∨ i = 1) (m := fun i => 1 - i) 0 [] (.inl rfl) ?_
 rintro i (rfl | rfl)
 ·
  refine runW ?_
  refine nextW 1 [] (.inr rfl) (by omega)
 ·
  refine runW ?_
  exact endW [] hQ
theorem gfwrong_fn {a : Nat} {k : Int} (ha : a ≤ 8) (hk : 0 ≤ k) (hk2 : k ≤ 1023) : Fn1 Tryz.prog 197 [.lit (.int .i64 (a : Int)), .row 1 [[.lit (.int .i64 k)]]] [] (.lit (.int .i64 0)) [] := by
 have g := fgood_fn (a := (a : Int))
 rw [decide_eq_true ⟨by omega, by omega⟩] at g
 refine fn1N_of pl197 (by kernel_rfl) Tryz.call197 Tryz.func197 rfl (by kernel_rfl) rfl [.tmp 4] (by kernel_rfl) fun Q hQ => ?_
 refine runW ?_
 refine callV0 (g) rfl rfl ?_
 refine runW ?_
 refine loopW (X := Nat) (st := fun i => ([(10, .row 1 [[.lit (.int .i64 k)]]), (11, .lit (.int .i64 1)), (12, .lit (.int .i64 (i : Int)))], [])) (inv := fun i => i = 0 ∨ i = 1) (m := fun i => 1 - i) 0 [] (.inl rfl) ?_
 rintro i (rfl | rfl)
 ·
  refine runW ?_
  refine nextW 1 [] (.inr rfl) (by omega)
 ·
  refine runW ?_
  exact endW [] hQ
theorem gfparts_fn {a K : Nat} (ha : a ≤ 1) (hK : K ≤ 15) : Fn1 Tryz.prog 198 [.lit (.int .i64 (a : Int)), .lit (.int .i64 (K : Int))] [] (.tup [.lit (.int .i64 ((K / 2 ^ a : Nat) : Int)), .lit (.int .i64 ((K % 2 ^ a : Nat) : Int))]) [] := by
 have key : ∀ a ∈ List.range 2, ∀ K ∈ List.range 16, bitK BinOp.and IntKind.i64 (K : Int) (IntKind.i64.wrap (IntKind.i64.wrap (1 * 2 ^ a) - 1)) = ((K % 2 ^ a : Nat) : Int) := by decide +kernel
 have hk := key a (List.mem_range.2 (by omega)) K (List.mem_range.2 (by omega))
 rw [← hk, show ((K / 2 ^ a : Nat) : Int) = (K : Int) / 2 ^ a by simp]
 refine fn1N_of pl198 (by kernel_rfl) Tryz.call198 Tryz.func198 rfl (by kernel_rfl) rfl [.tmp 4, .tmp 5] (by kernel_rfl) fun Q hQ => ?_
 refine runW ?_
 exact endW [] hQ
theorem gcat_fn {k a w K : Nat} (hs : smallG k a w) (hK : K ≤ 2 ^ w - 1) : Fn1 Tryz.prog 27 [pR k a w, .row 1 [[.lit (.int .i64 (K : Int))]]] [] (.lit (.int .i64 0)) [] := by
 obtain ⟨hg, h4⟩ := smallG_good hs
 have c := cCheck_fn hg h4
 have t := cTop_fn hg h4
 generalize 2 ^ w - 1 = m at *
 refine fn1N_of pl27 (by kernel_rfl) Tryz.call27 Tryz.func27 rfl (by kernel_rfl) rfl [.tmp 4] (by kernel_rfl) fun Q hQ => ?_
 refine runW ?_
 refine callV0 (c) rfl rfl ?_
 refine runW ?_
 refine loopW (X := Nat) (st := fun i => ([(2, .ref 0 0 0 0), (13, .row 1 [[.lit (.int .i64 (K : Int))]]), (14, .lit (.int .i64 1)), (15, .lit (.int .i64 (i : Int)))], [some (.cells [.lit (.int .i64 (k : Int)), .lit (.int .i64 (a : Int)), .lit (.int .i64 (w : Int))])])) (inv := fun i => i = 0 ∨ i = 1) (m := fun i => 1 - i) 0 [some 0] (.inl rfl) ?_
 rintro i (rfl | rfl)
 ·
  refine runW ?_
  refine callV0 (t) rfl rfl ?_
  refine runW ?_
  refine nextW 1 [some 0] (.inr rfl) (by omega)
 ·
  refine runW ?_
  exact endW [] hQ
theorem RS_quo {p q : Nat} (hp : p < 18446744073709551616) (hq : q < 18446744073709551616) : RS 2 (quo p q) := RS_div (by decide) (RS_small (by omega)) (RS_small (by omega))
theorem gmchance_fn {a K : Nat} (ha : 1 ≤ a) (ha2 : a ≤ 4) (hK : K ≤ 15) : Fn1 Tryz.prog 182 [.lit (.int .i64 (a : Int)), .lit (.int .i64 (K : Int))] [] (.tup [RV (quo a (a + 1) ^ K), .lit (.int .i64 0)]) [] := by
 have g := gmwrong_fn (a := (a : Int)) (k := (K : Int)) (by omega) (by omega) (by omega) (by omega)
 have mk := rmake_fn (p := (a : Int)) (q := ((a + 1 : Nat) : Int)) (by omega) (by omega) (by omega) (by omega) (by omega)
 obtain ⟨r, e, pw, -, h2, -⟩ := rpow_ex (x := quo a (a + 1)) (RS_quo (by omega) (by omega)) (n := (K : Int)) (by omega) (by omega)
 obtain ⟨rfl, rfl⟩ := h2 K rfl (by omega)
 rw [show (((a : Int) : Rat) / (((a + 1 : Nat) : Int) : Rat)) = quo a (a + 1) from rfl] at mk
 have e1 : (a : Int) + 1 = ((a + 1 : Nat) : Int) := by omega
 generalize quo a (a + 1) ^ K = r at *
 generalize quo a (a + 1) = x at *
 refine fn1N_of pl182 (by kernel_rfl) Tryz.call182 Tryz.func182 rfl (by kernel_rfl) rfl [.cell 4 35, .tmp 5] (by kernel_rfl) fun Q hQ => ?_
 refine runW ?_
 refine callW [] [1] (g) ?_
 simp (maxSteps := 1000000) (disch := (first | omega | (simp only [lnA, List.length_map, List.length_range, true_and, and_true]; (try omega); done) | fail)) only [go_sem, e1, Int.reduceEq, Int.reduceToNat, Nat.reduceAdd, Nat.reduceMul, Nat.reduceEqDiff, ↓reduceIte]
 refine callV0 (mk) rfl rfl ?_
 refine runW ?_
 refine callV0 (pw) rfl rfl ?_
 refine runW ?_
 exact endW [] hQ
theorem gmvalue_fn {a K : Nat} (ha : 1 ≤ a) (ha2 : a ≤ 4) (hK : K ≤ 15) : Fn1 Tryz.prog 184 [.lit (.int .i64 (a : Int)), .lit (.int .i64 (K : Int))] [] (.tup [RV ((((a : Nat) : Int) : Rat) * (quo (a + 1) a ^ K - 1)), .lit (.int .i64 0)]) [] := by
 have g := gmwrong_fn (a := (a : Int)) (k := (K : Int)) (by omega) (by omega) (by omega) (by omega)
 have mk := rmake_fn (p := ((a + 1 : Nat) : Int)) (q := (a : Int)) (by omega) (by omega) (by omega) (by omega) (by omega)
 obtain ⟨r, e, pw, -, h2, hr⟩ := rpow_ex (x := quo (a + 1) a) (RS_quo (by omega) (by omega)) (n := (K : Int)) (by omega) (by omega)
 obtain ⟨rfl, rfl⟩ := h2 K rfl (by omega)
 rw [show ((((a + 1 : Nat) : Int) : Rat) / ((a : Int) : Rat)) = quo (a + 1) a from rfl] at mk
 have e1 : (a : Int) + 1 = ((a + 1 : Nat) : Int) := by omega
 have o1 := rof_fn (n := (a : Int)) (by omega) (by omega)
 have o2 := rof1_fn
 have su := rsub_fn (hr.mono (show 129 ≤ 400000 by decide)) (RS_one.mono (show 1 ≤ 400000 by decide))
 have sa : RS 1 (((a : Nat) : Int) : Rat) := RS_small (by omega)
 have mu := rmul_fn (sa.mono (show 1 ≤ 400000 by decide)) ((RS_sub hr RS_one).mono (show _ ≤ 400000 by decide))
 generalize (((a : Nat) : Int) : Rat) * (quo (a + 1) a ^ K - 1) = m at *
 generalize quo (a + 1) a ^ K - 1 = s at *
 generalize quo (a + 1) a ^ K = r at *
 generalize quo (a + 1) a = x at *
 generalize (((a : Nat) : Int) : Rat) = ra at *
 generalize (1 : Rat) = one at *
 refine fn1N_of pl184 (by kernel_rfl) Tryz.call184 Tryz.func184 rfl (by kernel_rfl) rfl [.cell 4 35, .tmp 5] (by kernel_rfl) fun Q hQ => ?_
 refine runW ?_
 refine callW [] [1] (g) ?_
 simp (maxSteps := 1000000) (disch := (first | omega | (simp only [lnA, List.length_map, List.length_range, true_and, and_true]; (try omega); done) | fail)) only [go_sem, e1, Int.reduceEq, Int.reduceToNat, Nat.reduceAdd, Nat.reduceMul, Nat.reduceEqDiff, ↓reduceIte]
 refine callV0 (mk) rfl rfl ?_
 refine runW ?_
 refine callV0 (pw) rfl rfl ?_
 repeat (first | (refine callV0 (o1) rfl rfl ?_) | (refine callV0 (o2) rfl rfl ?_) | (refine callV0 (su) rfl rfl ?_) | (refine callV0 (mu) rfl rfl ?_) | (refine runW ?_))
 exact endW [] hQ
end Go.Proofs.YtdohmppildfjhaaGreatDoor
