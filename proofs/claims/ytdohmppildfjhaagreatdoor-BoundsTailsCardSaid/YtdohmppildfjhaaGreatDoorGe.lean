import Derived.Test.YtdohmppildfjhaaGreatDoorGd
import Derived.Test.YtdohmppildfjhaaGreatDoorSl
namespace Go.Proofs.YtdohmppildfjhaaGreatDoor
open Go.Eng Go.Vx
set_option linter.unusedSimpArgs false
set_option linter.unusedVariables false
set_option maxRecDepth 100000
def pR (k a b : Nat) : V := .agg [.lit (.int .i64 (k : Int)), .lit (.int .i64 (a : Int)), .lit (.int .i64 (b : Int))]
def sR (s : Nat × Nat × Bool) : V := .agg [.lit (.int .i64 (s.1 : Int)), .lit (.int .i64 (s.2.1 : Int)), .lit (.bool s.2.2)]
attribute [go_sem] pR sR
def goodN (k a b : Nat) : Prop := (k = 1 ∧ 1 ≤ a ∧ a ≤ 4096 ∧ 1 ≤ b ∧ b ≤ 10 ∧ bl (a + 1) * (2 ^ b - 1) ≤ 8192) ∨ (k = 2 ∧ a ≤ 8 ∧ 1 ≤ b ∧ b ≤ 10) ∨ (k = 3 ∧ 1 ≤ a ∧ a ≤ 5 ∧ 1 ≤ b ∧ b ≤ 10) ∨ (k = 4 ∧ 1 ≤ a ∧ a ≤ 1023 ∧ b ≤ 20)
def wellN (k a b : Nat) (s : Nat × Nat × Bool) : Prop := if k = 4 then s.1 ≤ a ∧ s.2.1 ≤ b ∧ (s.2.2 = true → s.2.1 = b) else s.2.1 = 0 ∧ s.1 ≤ 2 ^ b - 1 ∧ (s.2.2 = true → s.1 = 2 ^ b - 1)
theorem shW {k : Nat} (h : k ≤ 32) : IntKind.i64.wrap (1 * 2 ^ k) = ((2 ^ k : Nat) : Int) := by
 have h1 : 2 ^ k ≤ 2 ^ 32 := Nat.pow_le_pow_right (by decide) h
 have h2 : (1 * 2 ^ k : Int) = ((2 ^ k : Nat) : Int) := by simp
 rw [h2]
 generalize 2 ^ k = x at *
 exact wrap_i64 ⟨by omega, by omega⟩
set_option maxHeartbeats 1000000 in
theorem cCheck_fn {k a b : Nat} (h : goodN k a b) (h4 : k ≠ 4) : Fn1 Tryz.prog 20 [pR k a b] [] (.lit (.int .i64 0)) [] := by
 refine fn1N_of pl20 (by kernel_rfl) Tryz.call20 Tryz.func20 rfl (by kernel_rfl) rfl [.tmp 2] (by kernel_rfl) fun Q hQ => ?_
 rcases h with ⟨rfl, h1, h2, h3, h5, h6⟩ | ⟨rfl, h2, h3, h5⟩ | ⟨rfl, h1, h2, h3, h5⟩ | ⟨rfl, _⟩
 ·
  have g := amgood_fn (a := (a : Int))
  rw [decide_eq_true ⟨by omega, by omega⟩] at g
  have k1 := kind1_fn (a := (a : Int)) (w := (b : Int))
  have ln := len_fn (n := a + 1) (by omega)
  have ha1 : (a : Int) + 1 = ((a + 1 : Nat) : Int) := by omega
  have hs := shW (k := b) (by omega)
  have hp : 1 ≤ 2 ^ b := Nat.pow_pos (by decide)
  have hp2 : 2 ^ b ≤ 2 ^ 10 := Nat.pow_le_pow_right (by decide) h5
  have hb := bl_le_of (n := a + 1) (k := 13) (by omega)
  have hm : ((bl (a + 1) : Nat) : Int) * (((2 ^ b : Nat) : Int) - 1) = ((bl (a + 1) * (2 ^ b - 1) : Nat) : Int) := by
   rw [show (((2 ^ b : Nat) : Int) - 1) = ((2 ^ b - 1 : Nat) : Int) by omega]
   simp
  refine runW ?_
  refine callV0 (k1) rfl rfl ?_
  refine runW ?_
  refine callV0 (g) rfl rfl ?_
  simp (maxSteps := 1000000) (disch := (first | omega | (simp only [lnA, List.length_map, List.length_range, true_and, and_true]; (try omega); done) | fail)) only [go_sem, ha1, Int.reduceEq, Int.reduceToNat, Nat.reduceAdd, Nat.reduceMul, Nat.reduceEqDiff, ↓reduceIte]
  refine callV0 (ln) rfl rfl ?_
  generalize bl (a + 1) * (2 ^ b - 1) = m at *
  simp (maxSteps := 1000000) (disch := (first | omega | (simp only [lnA, List.length_map, List.length_range, true_and, and_true]; (try omega); done) | fail)) only [go_sem, hs, Int.toNat_natCast, hm, Int.reduceEq, Int.reduceToNat, Nat.reduceAdd, Nat.reduceMul, Nat.reduceEqDiff, ↓reduceIte]
  exact endW [] hQ
 ·
  have g := afgood_fn (a := (a : Int))
  rw [decide_eq_true ⟨by omega, by omega⟩] at g
  have k1 := kind2_fn (a := (a : Int)) (w := (b : Int))
  refine runW ?_
  refine callV0 (k1) rfl rfl ?_
  refine runW ?_
  refine callV0 (g) rfl rfl ?_
  refine runW ?_
  exact endW [] hQ
 ·
  have g := aygood_fn (a := (a : Int))
  rw [decide_eq_true ⟨by omega, by omega⟩] at g
  have k1 := kind3_fn (a := (a : Int)) (w := (b : Int))
  refine runW ?_
  refine callV0 (k1) rfl rfl ?_
  refine runW ?_
  refine callV0 (g) rfl rfl ?_
  refine runW ?_
  exact endW [] hQ
 ·
  exact absurd rfl h4
theorem cTop_fn {k a b : Nat} (h : goodN k a b) (h4 : k ≠ 4) : Fn1 Tryz.prog 8 [pR k a b] [] (.lit (.int .i64 ((2 ^ b - 1 : Nat) : Int))) [] := by
 have c := cCheck_fn h h4
 have hb : b ≤ 10 := by rcases h with h | h | h | h <;> omega
 have hs := shW (k := b) (by omega)
 have hp : 1 ≤ 2 ^ b := Nat.pow_pos (by decide)
 have hp2 : 2 ^ b ≤ 2 ^ 10 := Nat.pow_le_pow_right (by decide) hb
 have he : (((2 ^ b : Nat) : Int) - 1) = ((2 ^ b - 1 : Nat) : Int) := by omega
 generalize 2 ^ b - 1 = m at *
 refine fn1N_of pl8 (by kernel_rfl) Tryz.call8 Tryz.func8 rfl (by kernel_rfl) rfl [.tmp 2] (by kernel_rfl) fun Q hQ => ?_
 refine runW ?_
 refine callV0 (c) rfl rfl ?_
 simp (maxSteps := 1000000) (disch := (first | omega | (simp only [lnA, List.length_map, List.length_range, true_and, and_true]; (try omega); done) | fail)) only [go_sem, hs, Int.toNat_natCast, he, Int.reduceEq, Int.reduceToNat, Nat.reduceAdd, Nat.reduceMul, Nat.reduceEqDiff, ↓reduceIte]
 exact endW [] hQ
theorem tCheck_fn {a b : Nat} (h1 : 1 ≤ a) (h2 : a ≤ 1023) (h3 : b ≤ 20) : Fn1 Tryz.prog 98 [.agg [.lit (.int .i64 (a : Int)), .lit (.int .i64 (b : Int))]] [] (.lit (.int .i64 0)) [] := by
 refine fn1N_of pl98 (by kernel_rfl) Tryz.call98 Tryz.func98 rfl (by kernel_rfl) rfl [.tmp 2] (by kernel_rfl) fun Q hQ => ?_
 refine runW ?_
 exact endW [] hQ
theorem tWell_fn {a b : Nat} {s : Nat × Nat × Bool} (h1 : 1 ≤ a) (h2 : a ≤ 1023) (h3 : b ≤ 20) (w1 : s.1 ≤ a) (w2 : s.2.1 ≤ b) (w3 : s.2.2 = true → s.2.1 = b) : Fn1 Tryz.prog 101 [.agg [.lit (.int .i64 (a : Int)), .lit (.int .i64 (b : Int))], sR s] [] (.lit (.bool true)) [] := by
 have c := tCheck_fn h1 h2 h3
 obtain ⟨K, T, F⟩ := s
 dsimp only at w1 w2 w3
 refine fn1N_of pl101 (by kernel_rfl) Tryz.call101 Tryz.func101 rfl (by kernel_rfl) rfl [.tmp 4] (by kernel_rfl) fun Q hQ => ?_
 cases F with
 | true =>
  have w4 := w3 rfl
  refine runW ?_
  refine callV0 (c) rfl rfl ?_
  refine runW ?_
  exact endW [] hQ
 | false =>
  refine runW ?_
  refine callV0 (c) rfl rfl ?_
  refine runW ?_
  exact endW [] hQ
theorem rthin_fn {k a b : Int} : Fn1 Tryz.prog 97 [.agg [.lit (.int .i64 k), .lit (.int .i64 a), .lit (.int .i64 b)]] [] (.agg [.lit (.int .i64 a), .lit (.int .i64 b)]) [] := by
 refine fn1N_of pl97 (by kernel_rfl) Tryz.call97 Tryz.func97 rfl (by kernel_rfl) rfl [.cell 2 129] (by kernel_rfl) fun Q hQ => ?_
 refine runW ?_
 exact endW [] hQ
theorem rchain_fn {k a b : Int} : Fn1 Tryz.prog 99 [.agg [.lit (.int .i64 k), .lit (.int .i64 a), .lit (.int .i64 b)]] [] (.agg [.lit (.int .i64 k), .lit (.int .i64 a), .lit (.int .i64 b)]) [] := by
 refine fn1N_of pl99 (by kernel_rfl) Tryz.call99 Tryz.func99 rfl (by kernel_rfl) rfl [.cell 2 42] (by kernel_rfl) fun Q hQ => ?_
 refine runW ?_
 exact endW [] hQ
theorem rthinned_fn {K T : Int} {F : Bool} : Fn1 Tryz.prog 102 [.agg [.lit (.int .i64 K), .lit (.int .i64 T), .lit (.bool F)]] [] (.agg [.lit (.int .i64 K), .lit (.int .i64 T), .lit (.bool F)]) [] := by
 refine fn1N_of pl102 (by kernel_rfl) Tryz.call102 Tryz.func102 rfl (by kernel_rfl) rfl [.cell 2 135] (by kernel_rfl) fun Q hQ => ?_
 refine runW ?_
 exact endW [] hQ
theorem rCheck_fn {k a b : Nat} (h : goodN k a b) : Fn1 Tryz.prog 61 [pR k a b] [] (.lit (.int .i64 0)) [] := by
 refine fn1N_of pl61 (by kernel_rfl) Tryz.call61 Tryz.func61 rfl (by kernel_rfl) rfl [.tmp 2] (by kernel_rfl) fun Q hQ => ?_
 by_cases h4 : k = 4
 ·
  obtain ⟨h1, h2, h3⟩ : 1 ≤ a ∧ a ≤ 1023 ∧ b ≤ 20 := by rcases h with h | h | h | h <;> omega
  have c := tCheck_fn h1 h2 h3
  have t := rthin_fn (k := (k : Int)) (a := (a : Int)) (b := (b : Int))
  refine runW ?_
  refine callV0 (t) rfl rfl ?_
  refine runW ?_
  refine callV0 (c) rfl rfl ?_
  refine runW ?_
  exact endW [] hQ
 ·
  have c := cCheck_fn h h4
  have t := rchain_fn (k := (k : Int)) (a := (a : Int)) (b := (b : Int))
  refine runW ?_
  refine callV0 (t) rfl rfl ?_
  refine runW ?_
  refine callV0 (c) rfl rfl ?_
  refine runW ?_
  exact endW [] hQ
set_option maxHeartbeats 1000000 in
theorem rWell_fn {k a b : Nat} {s : Nat × Nat × Bool} (h : goodN k a b) (w : wellN k a b s) : Fn1 Tryz.prog 64 [pR k a b, sR s] [] (.lit (.bool true)) [] := by
 have rc := rCheck_fn h
 refine fn1N_of pl64 (by kernel_rfl) Tryz.call64 Tryz.func64 rfl (by kernel_rfl) rfl [.tmp 4] (by kernel_rfl) fun Q hQ => ?_
 by_cases h4 : k = 4
 ·
  obtain ⟨h1, h2, h3⟩ : 1 ≤ a ∧ a ≤ 1023 ∧ b ≤ 20 := by rcases h with h | h | h | h <;> omega
  unfold wellN at w
  rw [if_pos h4] at w
  have tw := tWell_fn h1 h2 h3 w.1 w.2.1 w.2.2
  have t := rthin_fn (k := (k : Int)) (a := (a : Int)) (b := (b : Int))
  have tt := rthinned_fn (K := (s.1 : Int)) (T := (s.2.1 : Int)) (F := s.2.2)
  refine runW ?_
  refine callV0 (rc) rfl rfl ?_
  refine runW ?_
  repeat (first | (refine callV0 (t) rfl rfl ?_) | (refine callV0 (tt) rfl rfl ?_) | (refine callV0 (tw) rfl rfl ?_) | (refine runW ?_))
  exact endW [] hQ
 ·
  have ct := cTop_fn h h4
  have t := rchain_fn (k := (k : Int)) (a := (a : Int)) (b := (b : Int))
  unfold wellN at w
  rw [if_neg h4] at w
  obtain ⟨K, T, F⟩ := s
  obtain ⟨w1, w2, w3⟩ := w
  dsimp only at w1 w2 w3
  generalize 2 ^ b - 1 = m at *
  cases F with
  | true =>
   have w4 := w3 rfl
   refine runW ?_
   refine callV0 (rc) rfl rfl ?_
   refine runW ?_
   refine callV0 (t) rfl rfl ?_
   refine runW ?_
   refine callV0 (ct) rfl rfl ?_
   refine runW ?_
   exact endW [] hQ
  | false =>
   refine runW ?_
   refine callV0 (rc) rfl rfl ?_
   refine runW ?_
   refine callV0 (t) rfl rfl ?_
   refine runW ?_
   refine callV0 (ct) rfl rfl ?_
   refine runW ?_
   exact endW [] hQ
def w1 (k a b : Nat) : Nat := if k = 4 then bl a else b
def w2 (k a b : Nat) : Nat := if k = 4 then bl b else 0
def rgB (k a b : Nat) (s : Nat × Nat × Bool) : List Bool := numBits s.1 (w1 k a b) ++ numBits s.2.1 (w2 k a b) ++ [s.2.2]
abbrev At3 := (Option Addr × Nat × Nat) × Bool × (Option Addr × Nat × Nat)
abbrev AtC := Ky × At3
def vlA (x : At3) : List Value := [.slice x.1.1 x.1.2.1 x.1.2.2, .bool x.2.1, .slice x.2.2.1 x.2.2.2.1 x.2.2.2.2]
def ecA (x : AtC) : List Value := [.int .i64 x.1.1, .int .i64 x.1.2.1, .bool x.1.2.2] ++ vlA x.2
theorem ecA_len (x : AtC) : (ecA x).length = 6 := rfl
theorem ecA_one (x : AtC) : ∀ v ∈ ecA x, v.oneCell' = true := by
 intro v hv
 simp only [ecA, vlA, List.cons_append, List.nil_append, List.mem_cons, List.not_mem_nil, or_false] at hv
 rcases hv with rfl | rfl | rfl | rfl | rfl | rfl <;> rfl
def enA (e : Ky × Rat) : List PV := [.lit (.int .i64 e.1.1), .lit (.int .i64 e.1.2.1), .lit (.bool e.1.2.2)] ++ enP e.2
theorem enA_len (e : Ky × Rat) : (enA e).length = 6 := rfl
theorem six {α : Type} {C : List α} (h : 6 ≤ C.length) : ∃ c0 c1 c2 c3 c4 c5 C', C = c0 :: c1 :: c2 :: c3 :: c4 :: c5 :: C' := by
 match C, h with
 | c0 :: c1 :: c2 :: c3 :: c4 :: c5 :: C, _ => exact ⟨c0, c1, c2, c3, c4, c5, C, rfl⟩
 | [], h => simp at h
 | [_], h => simp at h
 | [_, _], h => simp at h
 | [_, _, _], h => simp at h
 | [_, _, _, _], h => simp at h
 | [_, _, _, _, _], h => simp at h
theorem flatA_get : ∀ (D : List AtC) (i : Nat), i < D.length * 6 → (D.map ecA).flatten[i]? = some ((ecA D[i / 6]!)[i % 6]!)
 | [], i, h => by simp at h
 | x :: D, i, h => by
  simp only [List.map_cons, List.flatten_cons]
  by_cases hi : i < 6
  ·
   rw [List.getElem?_append_left (by rw [ecA_len]; exact hi), show i / 6 = 0 by omega, show i % 6 = i by omega]
   have : i < (ecA x).length := by rw [ecA_len]; exact hi
   rw [List.getElem?_eq_getElem this]
   simp [this]
  ·
   rw [List.getElem?_append_right (by rw [ecA_len]; omega), ecA_len, flatA_get D (i - 6) (by simp only [List.length_cons] at h; omega)]
   rw [show i / 6 = (i - 6) / 6 + 1 by omega, show i % 6 = (i - 6) % 6 by omega]
   rfl
section
variable {w w' W : World} {Im : Nat → Prop} {μ : Mu} {P : Program}
theorem rowD_ex : ∀ (l : Ds) (C : List Value), l.length * 6 ≤ C.length → (∀ (i : Nat) c p, C[i]? = some c → (l.map enA).flatten[i]? = some p → RepP w Im p c) →
  ∃ Z : List ((Ky × Rat) × AtC), Z.map (·.1) = l ∧ C.take (l.length * 6) = ((Z.map (·.2)).map ecA).flatten ∧ ∀ z ∈ Z, z.2.1 = z.1.1 ∧ RepPs w Im (enP z.1.2) (vlA z.2.2)
 | [], C, _, _ => ⟨[], rfl, by simp, by simp⟩
 | (k, x) :: l, C, hl, h => by
  obtain ⟨c0, c1, c2, c3, c4, c5, C, rfl⟩ := six (C := C) (by simp only [List.length_cons] at hl; omega)
  ·
   have e : (((k, x) :: l).map enA).flatten = enA (k, x) ++ (l.map enA).flatten := by simp
   rw [e] at h
   obtain ⟨Z, z1, z2, z3⟩ := rowD_ex l C (by simp only [List.length_cons] at hl; omega) (fun i c p h1 h2 => h (i + 6) c p (by simpa using h1) (by
    rw [List.getElem?_append_right (by rw [enA_len]; omega), enA_len]
    simpa using h2))
   have r0 := h 0 c0 _ rfl (by rfl)
   have r1 := h 1 c1 _ rfl (by rfl)
   have r2 := h 2 c2 _ rfl (by rfl)
   have r3 := h 3 c3 _ rfl (by rfl)
   have r4 := h 4 c4 _ rfl (by rfl)
   have r5 := h 5 c5 _ rfl (by rfl)
   have s3 : ∃ a n q, c3 = .slice a n q := by cases r3; exact ⟨_, _, _, rfl⟩
   have s5 : ∃ a n q, c5 = .slice a n q := by cases r5; exact ⟨_, _, _, rfl⟩
   obtain ⟨a3, n3, q3, rfl⟩ := s3
   obtain ⟨a5, n5, q5, rfl⟩ := s5
   have t0 : c0 = .int .i64 k.1 := by cases r0; rfl
   have t1 : c1 = .int .i64 k.2.1 := by cases r1; rfl
   have t2 : c2 = .bool k.2.2 := by cases r2; rfl
   have t4 : c4 = .bool (decide (x.num < 0)) := by cases r4; rfl
   subst t0 t1 t2 t4
   refine ⟨((k, x), (k, ((a3, n3, q3), decide (x.num < 0), (a5, n5, q5)))) :: Z, by rw [List.map_cons, z1], ?_, fun z hz => ?_⟩
   ·
    have e6 : ((k, x) :: l).length * 6 = l.length * 6 + 6 := by simp only [List.length_cons]; omega
    rw [e6]
    simp only [List.take_succ_cons, z2, List.map_cons, List.flatten_cons, ecA, vlA, List.cons_append, List.nil_append]
   ·
    rcases List.mem_cons.1 hz with rfl | hz
    ·
     refine ⟨rfl, rfl, fun i c p h1 h2 => ?_⟩
     match i, h1, h2 with
     | 0, h1, h2 => cases h1; cases h2; exact r3
     | 1, h1, h2 => cases h1; cases h2; exact r4
     | 2, h1, h2 => cases h1; cases h2; exact r5
    ·
     exact z3 z hz
theorem rowD_back : ∀ (Z : List ((Ky × Rat) × AtC)), (∀ z ∈ Z, z.2.1 = z.1.1 ∧ RepPs w Im (enP z.1.2) (vlA z.2.2)) → ∀ (i : Nat) c p, ((Z.map (·.2)).map ecA).flatten[i]? = some c → ((Z.map (·.1)).map enA).flatten[i]? = some p → RepP w Im p c
 | [], _, i, c, p, h, _ => by simp at h
 | ((k, x), (k', y)) :: Z, hz, i, c, p, h1, h2 => by
  obtain ⟨e, hr⟩ := hz _ (List.mem_cons_self)
  dsimp only at e hr
  subst e
  simp only [List.map_cons, List.flatten_cons] at h1 h2
  by_cases hi : i < 6
  ·
   rw [List.getElem?_append_left (by rw [ecA_len]; exact hi)] at h1
   rw [List.getElem?_append_left (by rw [enA_len]; exact hi)] at h2
   match i, hi, h1, h2 with
   | 0, _, h1, h2 => cases h1; cases h2; exact .lit rfl
   | 1, _, h1, h2 => cases h1; cases h2; exact .lit rfl
   | 2, _, h1, h2 => cases h1; cases h2; exact .lit rfl
   | 3, _, h1, h2 => exact hr.2 0 c p (by simpa [ecA, vlA] using h1) (by simpa [enA, enP] using h2)
   | 4, _, h1, h2 => exact hr.2 1 c p (by simpa [ecA, vlA] using h1) (by simpa [enA, enP] using h2)
   | 5, _, h1, h2 => exact hr.2 2 c p (by simpa [ecA, vlA] using h1) (by simpa [enA, enP] using h2)
  ·
   rw [List.getElem?_append_right (by rw [ecA_len]; omega), ecA_len] at h1
   rw [List.getElem?_append_right (by rw [enA_len]; omega), enA_len] at h2
   exact rowD_back Z (fun z hz' => hz z (List.mem_cons_of_mem _ hz')) (i - 6) c p h1 h2
theorem ext_grow (h : Ext [] W w') : ∃ q os', w' = Go.Sort.grow (W.drewN q) os' := by
 refine ⟨w'.drawn - W.drawn, w'.heap.extract W.heap.size, ?_⟩
 have hd := h.dr
 have hh : w'.heap = W.heap ++ w'.heap.extract W.heap.size := by
  apply Array.ext_getElem?
  intro i
  by_cases hi : i < W.heap.size
  ·
   rw [Array.getElem?_append_left hi]
   exact h.block i hi (by simp)
  ·
   rw [Array.getElem?_append_right (by omega), Array.getElem?_extract]
   have hs := h.size
   by_cases hi2 : i < w'.heap.size
   ·
    rw [if_pos (by omega)]
    congr 1
    omega
   ·
    rw [if_neg (by omega), Array.getElem?_eq_none (by omega)]
 have e1 := h.os
 have e2 := h.tape
 have e3 := h.output
 cases w' with
 | mk heap tape drawn os output =>
  cases W with
  | mk heap2 tape2 drawn2 os2 output2 =>
   dsimp only at e1 e2 e3 hd hh
   subst e1 e2 e3
   simp only [Go.Sort.grow, World.drewN]
   congr 1
   omega
theorem sortW_ext {α : Type} [Inhabited α] (enc : α → List Value) (k b m : Nat) (d : Array α) (os : Array Obj) : Ext [b] w (sortWorldK enc k w b 0 m d os) := by
 refine ⟨rfl, rfl, rfl, Nat.le_add_right _ _, ?_, fun c hc hn => ?_⟩
 ·
  unfold sortWorldK Go.Sort.putRowK
  rw [Go.Sort.size_grow, Go.Sort.size_putRow]
  exact Nat.le_add_right _ _
 ·
  simp only [List.mem_singleton] at hn
  unfold sortWorldK Go.Sort.putRowK Go.Sort.grow
  show ((Go.Sort.putRow id (Go.Sort.ahead w m) b 0 _).heap ++ os)[c]? = _
  rw [Array.getElem?_append_left (by rw [Go.Sort.size_putRow]; exact hc)]
  unfold Go.Sort.putRow Go.Sort.mapBlock
  show ((Go.Sort.ahead w m).heap.modify b _)[c]? = _
  rw [Array.getElem?_modify, if_neg (fun e => hn e.symm)]
  rfl
theorem sortW_blk {b m : Nat} {D : List AtC} {os : Array Obj} {C : List Value} (hB : Blk w b C) (hl : D.length * 6 ≤ C.length) : Blk (sortWorldK ecA 6 w b 0 m D.toArray os) b ((D.map ecA).flatten ++ C.drop (D.length * 6)) := by
 have hlt := hB.lt
 obtain ⟨T, hB⟩ := hB
 refine ⟨T, ?_⟩
 unfold sortWorldK Go.Sort.putRowK Go.Sort.grow
 show ((Go.Sort.putRow id (Go.Sort.ahead w m) b 0 _).heap ++ os)[b]? = _
 rw [Array.getElem?_append_left (by rw [Go.Sort.size_putRow]; exact hlt)]
 unfold Go.Sort.putRow Go.Sort.mapBlock
 show (w.heap.modify b _)[b]? = _
 rw [Array.getElem?_modify, if_pos rfl, hB]
 show some (Obj.cells _ T (0, 0)) = _
 congr 2
 apply Array.ext_getElem?
 intro i
 unfold Go.Sort.putCells
 have hfl : ((D.map ecA).flatten).length = D.length * 6 := by
  clear hl hB
  induction D with
  | nil => rfl
  | cons x D ih => simp only [List.map_cons, List.flatten_cons, List.length_append, ecA_len, ih, List.length_cons]; omega
 rw [Array.getElem?_mapIdx, Go.Sort.size_flatK]
 simp only [List.size_toArray, List.getElem?_toArray, Nat.zero_le, true_and, Nat.zero_add, Nat.sub_zero, id]
 by_cases hi : i < D.length * 6
 ·
  rw [List.getElem?_append_left (by omega), flatA_get D i hi, List.getElem?_eq_getElem (by omega), Option.map_some, if_pos hi, Go.Sort.get_flatK _ _ _ _ (by simpa using hi)]
  simp
 ·
  rw [List.getElem?_append_right (by omega), hfl, List.getElem?_drop, show D.length * 6 + (i - D.length * 6) = i by omega]
  cases C[i]? with
  | none => rfl
  | some c => rw [Option.map_some, if_neg hi]
end
end Go.Proofs.YtdohmppildfjhaaGreatDoor
