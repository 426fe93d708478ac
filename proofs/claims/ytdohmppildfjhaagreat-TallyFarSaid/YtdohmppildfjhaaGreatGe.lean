import Derived.Test.YtdohmppildfjhaaGreatGc
import Derived.Test.YtdohmppildfjhaaGreatSl
namespace Go.Proofs.YtdohmppildfjhaaGreat
open Go.Eng Go.Vx
set_option linter.unusedSimpArgs false
set_option linter.unusedVariables false
set_option maxRecDepth 100000
abbrev At3 := (Option Addr × Nat × Nat) × Bool × (Option Addr × Nat × Nat)
abbrev AtC := Ky × At3
def vlA (x : At3) : List Value := [.slice x.1.1 x.1.2.1 x.1.2.2, .bool x.2.1, .slice x.2.2.1 x.2.2.2.1 x.2.2.2.2]
def ecA (x : AtC) : List Value := [.int .i64 x.1.1, .int .i64 x.1.2.1, .bool x.1.2.2] ++ vlA x.2
theorem ecA_len (x : AtC) : (ecA x).length = 6 := rfl
theorem ecA_one (x : AtC) : ∀ v ∈ ecA x, v.oneCell' = true := by
 intro v hv
 simp only [ecA, vlA, List.cons_append, List.nil_append, List.mem_cons, List.not_mem_nil, or_false] at hv
 rcases hv with rfl | rfl | rfl | rfl | rfl | rfl <;> rfl
def enA (e : Ky × Rat) : List PV := [.lit (.int .i64 e.1.1), .lit (.int .i64 e.1.2.1), .lit (.bool e.1.2.2)] ++ enP e.2
theorem enA_len (e : Ky × Rat) : (enA e).length = 6 := rfl
theorem six {α : Type} {C : List α} (h : 6 ≤ C.length) : ∃ c0 c1 c2 c3 c4 c5 C', C = c0 :: c1 :: c2 :: c3 :: c4 :: c5 :: C' := by
 match C, h with
 | c0 :: c1 :: c2 :: c3 :: c4 :: c5 :: C, _ => exact ⟨c0, c1, c2, c3, c4, c5, C, rfl⟩
 | [], h => simp at h
 | [_], h => simp at h
 | [_, _], h => simp at h
 | [_, _, _], h => simp at h
 | [_, _, _, _], h => simp at h
 | [_, _, _, _, _], h => simp at h
theorem flatA_get : ∀ (D : List AtC) (i : Nat), i < D.length * 6 → (D.map ecA).flatten[i]? = some ((ecA D[i / 6]!)[i % 6]!)
 | [], i, h => by simp at h
 | x :: D, i, h => by
  simp only [List.map_cons, List.flatten_cons]
  by_cases hi : i < 6
  ·
   rw [List.getElem?_append_left (by rw [ecA_len]; exact hi), show i / 6 = 0 by omega, show i % 6 = i by omega]
   have : i < (ecA x).length := by rw [ecA_len]; exact hi
   rw [List.getElem?_eq_getElem this]
   simp [this]
  ·
   rw [List.getElem?_append_right (by rw [ecA_len]; omega), ecA_len, flatA_get D (i - 6) (by simp only [List.length_cons] at h; omega)]
   rw [show i / 6 = (i - 6) / 6 + 1 by omega, show i % 6 = (i - 6) % 6 by omega]
   rfl
section
variable {w w' W : World} {Im : Nat → Prop} {μ : Mu} {P : Program}
theorem rowD_ex : ∀ (l : Ds) (C : List Value), l.length * 6 ≤ C.length → (∀ (i : Nat) c p, C[i]? = some c → (l.map enA).flatten[i]? = some p → RepP w Im p c) →
  ∃ Z : List ((Ky × Rat) × AtC), Z.map (·.1) = l ∧ C.take (l.length * 6) = ((Z.map (·.2)).map ecA).flatten ∧ ∀ z ∈ Z, z.2.1 = z.1.1 ∧ RepPs w Im (enP z.1.2) (vlA z.2.2)
 | [], C, _, _ => ⟨[], rfl, by simp, by simp⟩
 | (k, x) :: l, C, hl, h => by
  obtain ⟨c0, c1, c2, c3, c4, c5, C, rfl⟩ := six (C := C) (by simp only [List.length_cons] at hl; omega)
  ·
   have e : (((k, x) :: l).map enA).flatten = enA (k, x) ++ (l.map enA).flatten := by simp
   rw [e] at h
   obtain ⟨Z, z1, z2, z3⟩ := rowD_ex l C (by simp only [List.length_cons] at hl; omega) (fun i c p h1 h2 => h (i + 6) c p (by simpa using h1) (by
    rw [List.getElem?_append_right (by rw [enA_len]; omega), enA_len]
    simpa using h2))
   have r0 := h 0 c0 _ rfl (by rfl)
   have r1 := h 1 c1 _ rfl (by rfl)
   have r2 := h 2 c2 _ rfl (by rfl)
   have r3 := h 3 c3 _ rfl (by rfl)
   have r4 := h 4 c4 _ rfl (by rfl)
   have r5 := h 5 c5 _ rfl (by rfl)
   have s3 : ∃ a n q, c3 = .slice a n q := by cases r3; exact ⟨_, _, _, rfl⟩
   have s5 : ∃ a n q, c5 = .slice a n q := by cases r5; exact ⟨_, _, _, rfl⟩
   obtain ⟨a3, n3, q3, rfl⟩ := s3
   obtain ⟨a5, n5, q5, rfl⟩ := s5
   have t0 : c0 = .int .i64 k.1 := by cases r0; rfl
   have t1 : c1 = .int .i64 k.2.1 := by cases r1; rfl
   have t2 : c2 = .bool k.2.2 := by cases r2; rfl
   have t4 : c4 = .bool (decide (x.num < 0)) := by cases r4; rfl
   subst t0 t1 t2 t4
   refine ⟨((k, x), (k, ((a3, n3, q3), decide (x.num < 0), (a5, n5, q5)))) :: Z, by rw [List.map_cons, z1], ?_, fun z hz => ?_⟩
   ·
    have e6 : ((k, x) :: l).length * 6 = l.length * 6 + 6 := by simp only [List.length_cons]; omega
    rw [e6]
    simp only [List.take_succ_cons, z2, List.map_cons, List.flatten_cons, ecA, vlA, List.cons_append, List.nil_append]
   ·
    rcases List.mem_cons.1 hz with rfl | hz
    ·
     refine ⟨rfl, rfl, fun i c p h1 h2 => ?_⟩
     match i, h1, h2 with
     | 0, h1, h2 => cases h1; cases h2; exact r3
     | 1, h1, h2 => cases h1; cases h2; exact r4
     | 2, h1, h2 => cases h1; cases h2; exact r5
    ·
     exact z3 z hz
theorem rowD_back : ∀ (Z : List ((Ky × Rat) × AtC)), (∀ z ∈ Z, z.2.1 = z.1.1 ∧ RepPs w Im (enP z.1.2) (vlA z.2.2)) → ∀ (i : Nat) c p, ((Z.map (·.2)).map ecA).flatten[i]? = some c → ((Z.map (·.1)).map enA).flatten[i]? = some p → RepP w Im p c
 | [], _, i, c, p, h, _ => by simp at h
 | ((k, x), (k', y)) :: Z, hz, i, c, p, h1, h2 => by
  obtain ⟨e, hr⟩ := hz _ (List.mem_cons_self)
  dsimp only at e hr
  subst e
  simp only [List.map_cons, List.flatten_cons] at h1 h2
  by_cases hi : i < 6
  ·
   rw [List.getElem?_append_left (by rw [ecA_len]; exact hi)] at h1
   rw [List.getElem?_append_left (by rw [enA_len]; exact hi)] at h2
   match i, hi, h1, h2 with
   | 0, _, h1, h2 => cases h1; cases h2; exact .lit rfl
   | 1, _, h1, h2 => cases h1; cases h2; exact .lit rfl
   | 2, _, h1, h2 => cases h1; cases h2; exact .lit rfl
   | 3, _, h1, h2 => exact hr.2 0 c p (by simpa [ecA, vlA] using h1) (by simpa [enA, enP] using h2)
   | 4, _, h1, h2 => exact hr.2 1 c p (by simpa [ecA, vlA] using h1) (by simpa [enA, enP] using h2)
   | 5, _, h1, h2 => exact hr.2 2 c p (by simpa [ecA, vlA] using h1) (by simpa [enA, enP] using h2)
  ·
   rw [List.getElem?_append_right (by rw [ecA_len]; omega), ecA_len] at h1
   rw [List.getElem?_append_right (by rw [enA_len]; omega), enA_len] at h2
   exact rowD_back Z (fun z hz' => hz z (List.mem_cons_of_mem _ hz')) (i - 6) c p h1 h2
theorem ext_grow (h : Ext [] W w') : ∃ q os', w' = Go.Sort.grow (W.drewN q) os' := by
 refine ⟨w'.drawn - W.drawn, w'.heap.extract W.heap.size, ?_⟩
 have hd := h.dr
 have hh : w'.heap = W.heap ++ w'.heap.extract W.heap.size := by
  apply Array.ext_getElem?
  intro i
  by_cases hi : i < W.heap.size
  ·
   rw [Array.getElem?_append_left hi]
   exact h.block i hi (by simp)
  ·
   rw [Array.getElem?_append_right (by omega), Array.getElem?_extract]
   have hs := h.size
   by_cases hi2 : i < w'.heap.size
   ·
    rw [if_pos (by omega)]
    congr 1
    omega
   ·
    rw [if_neg (by omega), Array.getElem?_eq_none (by omega)]
 have e1 := h.os
 have e2 := h.tape
 have e3 := h.output
 cases w' with
 | mk heap tape drawn os output =>
  cases W with
  | mk heap2 tape2 drawn2 os2 output2 =>
   dsimp only at e1 e2 e3 hd hh
   subst e1 e2 e3
   simp only [Go.Sort.grow, World.drewN]
   congr 1
   omega
theorem sortW_ext {α : Type} [Inhabited α] (enc : α → List Value) (k b m : Nat) (d : Array α) (os : Array Obj) : Ext [b] w (sortWorldK enc k w b 0 m d os) := by
 refine ⟨rfl, rfl, rfl, Nat.le_add_right _ _, ?_, fun c hc hn => ?_⟩
 ·
  unfold sortWorldK Go.Sort.putRowK
  rw [Go.Sort.size_grow, Go.Sort.size_putRow]
  exact Nat.le_add_right _ _
 ·
  simp only [List.mem_singleton] at hn
  unfold sortWorldK Go.Sort.putRowK Go.Sort.grow
  show ((Go.Sort.putRow id (Go.Sort.ahead w m) b 0 _).heap ++ os)[c]? = _
  rw [Array.getElem?_append_left (by rw [Go.Sort.size_putRow]; exact hc)]
  unfold Go.Sort.putRow Go.Sort.mapBlock
  show ((Go.Sort.ahead w m).heap.modify b _)[c]? = _
  rw [Array.getElem?_modify, if_neg (fun e => hn e.symm)]
  rfl
theorem sortW_blk {b m : Nat} {D : List AtC} {os : Array Obj} {C : List Value} (hB : Blk w b C) (hl : D.length * 6 ≤ C.length) : Blk (sortWorldK ecA 6 w b 0 m D.toArray os) b ((D.map ecA).flatten ++ C.drop (D.length * 6)) := by
 have hlt := hB.lt
 obtain ⟨T, hB⟩ := hB
 refine ⟨T, ?_⟩
 unfold sortWorldK Go.Sort.putRowK Go.Sort.grow
 show ((Go.Sort.putRow id (Go.Sort.ahead w m) b 0 _).heap ++ os)[b]? = _
 rw [Array.getElem?_append_left (by rw [Go.Sort.size_putRow]; exact hlt)]
 unfold Go.Sort.putRow Go.Sort.mapBlock
 show (w.heap.modify b _)[b]? = _
 rw [Array.getElem?_modify, if_pos rfl, hB]
 show some (Obj.cells _ T (0, 0)) = _
 congr 2
 apply Array.ext_getElem?
 intro i
 unfold Go.Sort.putCells
 have hfl : ((D.map ecA).flatten).length = D.length * 6 := by
  clear hl hB
  induction D with
  | nil => rfl
  | cons x D ih => simp only [List.map_cons, List.flatten_cons, List.length_append, ecA_len, ih, List.length_cons]; omega
 rw [Array.getElem?_mapIdx, Go.Sort.size_flatK]
 simp only [List.size_toArray, List.getElem?_toArray, Nat.zero_le, true_and, Nat.zero_add, Nat.sub_zero, id]
 by_cases hi : i < D.length * 6
 ·
  rw [List.getElem?_append_left (by omega), flatA_get D i hi, List.getElem?_eq_getElem (by omega), Option.map_some, if_pos hi, Go.Sort.get_flatK _ _ _ _ (by simpa using hi)]
  simp
 ·
  rw [List.getElem?_append_right (by omega), hfl, List.getElem?_drop, show D.length * 6 + (i - D.length * 6) = i by omega]
  cases C[i]? with
  | none => rfl
  | some c => rw [Option.map_some, if_neg hi]
end
end Go.Proofs.YtdohmppildfjhaaGreat
