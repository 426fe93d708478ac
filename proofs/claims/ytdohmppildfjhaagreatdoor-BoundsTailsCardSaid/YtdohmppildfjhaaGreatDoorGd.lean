import Derived.Test.YtdohmppildfjhaaGreatDoorFw
import Derived.Test.YtdohmppildfjhaaGreatDoorGa
import Derived.Test.YtdohmppildfjhaaGreatDoorGb
namespace Go.Proofs.YtdohmppildfjhaaGreatDoor
open Go.Eng Go.Vx
set_option linter.unusedSimpArgs false
set_option linter.unusedVariables false
set_option maxRecDepth 100000
theorem mgood_fn {a : Int} : Fn1 Tryz.prog 183 [.lit (.int .i64 a)] [] (.lit (.bool (decide (1 ≤ a ∧ a ≤ 4096)))) [] := by
 refine fn1N_of pl183 (by kernel_rfl) Tryz.call183 Tryz.func183 rfl (by kernel_rfl) rfl [.tmp 2] (by kernel_rfl) fun Q hQ => ?_
 by_cases h : 1 ≤ a
 ·
  simp (maxSteps := 1000000) (disch := (first | omega | (simp only [lnA, List.length_map, List.length_range, true_and, and_true]; (try omega); done) | fail)) only [go_sem, decide_true, Int.reduceEq, Int.reduceToNat, Nat.reduceAdd, Nat.reduceMul, Nat.reduceEqDiff, ↓reduceIte]
  simp only [h, true_and] at hQ
  exact endW [] hQ
 ·
  simp (maxSteps := 1000000) (disch := (first | omega | (simp only [lnA, List.length_map, List.length_range, true_and, and_true]; (try omega); done) | fail)) only [go_sem, decide_false, Int.reduceEq, Int.reduceToNat, Nat.reduceAdd, Nat.reduceMul, Nat.reduceEqDiff, ↓reduceIte]
  simp only [h, false_and, decide_false] at hQ
  exact endW [] hQ
theorem fgood_fn {a : Int} : Fn1 Tryz.prog 195 [.lit (.int .i64 a)] [] (.lit (.bool (decide (0 ≤ a ∧ a ≤ 8)))) [] := by
 refine fn1N_of pl195 (by kernel_rfl) Tryz.call195 Tryz.func195 rfl (by kernel_rfl) rfl [.tmp 2] (by kernel_rfl) fun Q hQ => ?_
 by_cases h : 0 ≤ a
 ·
  simp (maxSteps := 1000000) (disch := (first | omega | (simp only [lnA, List.length_map, List.length_range, true_and, and_true]; (try omega); done) | fail)) only [go_sem, decide_true, Int.reduceEq, Int.reduceToNat, Nat.reduceAdd, Nat.reduceMul, Nat.reduceEqDiff, ↓reduceIte]
  simp only [h, true_and] at hQ
  exact endW [] hQ
 ·
  simp (maxSteps := 1000000) (disch := (first | omega | (simp only [lnA, List.length_map, List.length_range, true_and, and_true]; (try omega); done) | fail)) only [go_sem, decide_false, Int.reduceEq, Int.reduceToNat, Nat.reduceAdd, Nat.reduceMul, Nat.reduceEqDiff, ↓reduceIte]
  simp only [h, false_and, decide_false] at hQ
  exact endW [] hQ
theorem ygood_fn {a : Int} : Fn1 Tryz.prog 206 [.lit (.int .i64 a)] [] (.lit (.bool (decide (1 ≤ a ∧ a ≤ 5)))) [] := by
 refine fn1N_of pl206 (by kernel_rfl) Tryz.call206 Tryz.func206 rfl (by kernel_rfl) rfl [.tmp 2] (by kernel_rfl) fun Q hQ => ?_
 by_cases h : 1 ≤ a
 ·
  simp (maxSteps := 1000000) (disch := (first | omega | (simp only [lnA, List.length_map, List.length_range, true_and, and_true]; (try omega); done) | fail)) only [go_sem, decide_true, Int.reduceEq, Int.reduceToNat, Nat.reduceAdd, Nat.reduceMul, Nat.reduceEqDiff, ↓reduceIte]
  simp only [h, true_and] at hQ
  exact endW [] hQ
 ·
  simp (maxSteps := 1000000) (disch := (first | omega | (simp only [lnA, List.length_map, List.length_range, true_and, and_true]; (try omega); done) | fail)) only [go_sem, decide_false, Int.reduceEq, Int.reduceToNat, Nat.reduceAdd, Nat.reduceMul, Nat.reduceEqDiff, ↓reduceIte]
  simp only [h, false_and, decide_false] at hQ
  exact endW [] hQ
theorem amgood_fn {a : Int} : Fn1 Tryz.prog 178 [.lit (.int .i64 a)] [] (.lit (.bool (decide (1 ≤ a ∧ a ≤ 4096)))) [] := by
 refine fn1N_of pl178 (by kernel_rfl) Tryz.call178 Tryz.func178 rfl (by kernel_rfl) rfl [.tmp 2] (by kernel_rfl) fun Q hQ => ?_
 refine runW ?_
 refine callV0 (mgood_fn) rfl rfl ?_
 refine runW ?_
 exact endW [] hQ
theorem afgood_fn {a : Int} : Fn1 Tryz.prog 190 [.lit (.int .i64 a)] [] (.lit (.bool (decide (0 ≤ a ∧ a ≤ 8)))) [] := by
 refine fn1N_of pl190 (by kernel_rfl) Tryz.call190 Tryz.func190 rfl (by kernel_rfl) rfl [.tmp 2] (by kernel_rfl) fun Q hQ => ?_
 refine runW ?_
 refine callV0 (fgood_fn) rfl rfl ?_
 refine runW ?_
 exact endW [] hQ
theorem aygood_fn {a : Int} : Fn1 Tryz.prog 201 [.lit (.int .i64 a)] [] (.lit (.bool (decide (1 ≤ a ∧ a ≤ 5)))) [] := by
 refine fn1N_of pl201 (by kernel_rfl) Tryz.call201 Tryz.func201 rfl (by kernel_rfl) rfl [.tmp 2] (by kernel_rfl) fun Q hQ => ?_
 refine runW ?_
 refine callV0 (ygood_fn) rfl rfl ?_
 refine runW ?_
 exact endW [] hQ
theorem kind1_fn {a w : Int} : Fn1 Tryz.prog 28 [.agg [.lit (.int .i64 1), .lit (.int .i64 a), .lit (.int .i64 w)]] [] (.lit (.iface 95 (.int .i64 a))) [] := by
 refine fn1N_of pl28 (by kernel_rfl) Tryz.call28 Tryz.func28 rfl (by kernel_rfl) rfl [.tmp 2] (by kernel_rfl) fun Q hQ => ?_
 refine runW ?_
 exact endW [] hQ
theorem kind2_fn {a w : Int} : Fn1 Tryz.prog 28 [.agg [.lit (.int .i64 2), .lit (.int .i64 a), .lit (.int .i64 w)]] [] (.lit (.iface 96 (.int .i64 a))) [] := by
 refine fn1N_of pl28 (by kernel_rfl) Tryz.call28 Tryz.func28 rfl (by kernel_rfl) rfl [.tmp 2] (by kernel_rfl) fun Q hQ => ?_
 refine runW ?_
 exact endW [] hQ
theorem kind3_fn {a w : Int} : Fn1 Tryz.prog 28 [.agg [.lit (.int .i64 3), .lit (.int .i64 a), .lit (.int .i64 w)]] [] (.lit (.iface 97 (.int .i64 a))) [] := by
 refine fn1N_of pl28 (by kernel_rfl) Tryz.call28 Tryz.func28 rfl (by kernel_rfl) rfl [.tmp 2] (by kernel_rfl) fun Q hQ => ?_
 refine runW ?_
 exact endW [] hQ
theorem b2i_inj {a b : Bool} (h : b2i a = b2i b) : a = b := by
 cases a <;> cases b <;> simp [b2i] at h <;> rfl
theorem ord3_lt (a a' b b' c c' : Int) : or3 [cmp3 a a', cmp3 b b', cmp3 c c'] < 0 ↔ (a < a' ∨ (a = a' ∧ (b < b' ∨ (b = b' ∧ c < c')))) := by
 simp only [or3, cmp3]
 by_cases h1 : a < a'
 ·
  simp [h1]
 ·
  by_cases h2 : a' < a
  ·
   simp only [h1, h2, if_false, if_true]
   simp
   omega
  ·
   have : a = a' := by omega
   subst this
   simp only [h1, if_false]
   by_cases h3 : b < b'
   ·
    simp [h3]
   ·
    by_cases h4 : b' < b
    ·
     simp only [h3, h4, if_false, if_true]
     simp
     omega
    ·
     have : b = b' := by omega
     subst this
     simp only [h3, if_false]
     by_cases h5 : c < c'
     ·
      simp [h5]
     ·
      by_cases h6 : c' < c
      ·
       simp [h5, h6]
      ·
       have : c = c' := by omega
       subst this
       simp
theorem ordK_lt (k k' : Ky) : ordK k k' < 0 ↔ (k.1 < k'.1 ∨ (k.1 = k'.1 ∧ (k.2.1 < k'.2.1 ∨ (k.2.1 = k'.2.1 ∧ b2i k.2.2 < b2i k'.2.2)))) := ord3_lt _ _ _ _ _ _
def leK (k k' : Ky) : Bool := !decide (ordK k' k < 0)
theorem leK_iff (k k' : Ky) : leK k k' = true ↔ ¬ (k'.1 < k.1 ∨ (k'.1 = k.1 ∧ (k'.2.1 < k.2.1 ∨ (k'.2.1 = k.2.1 ∧ b2i k'.2.2 < b2i k.2.2)))) := by
 unfold leK
 rw [← ordK_lt]
 simp
theorem leK_anti {k k' : Ky} (h1 : leK k k' = true) (h2 : leK k' k = true) : k = k' := by
 rw [leK_iff] at h1 h2
 obtain ⟨a, b, c⟩ := k
 obtain ⟨a', b', c'⟩ := k'
 dsimp only at h1 h2
 have e1 : a = a' := by omega
 have e2 : b = b' := by omega
 have e3 : c = c' := b2i_inj (by omega)
 rw [e1, e2, e3]
def nzD (l : Ds) : Ds := l.filter fun e => decide (e.2 ≠ 0)
def srtD (l : Ds) : Ds := l.mergeSort fun a b => leK a.1 b.1
def atD (l : Ds) : Ds := srtD (nzD l)
theorem srtD_perm (l : Ds) : (srtD l).Perm l := List.mergeSort_perm _ _
theorem srtD_pair (l : Ds) : (srtD l).Pairwise fun a b => leK a.1 b.1 = true := by
 refine List.pairwise_mergeSort (fun a b c h1 h2 => ?_) (fun a b => ?_) l
 ·
  rw [leK_iff] at h1 h2 ⊢
  omega
 ·
  simp only [Bool.or_eq_true, leK_iff]
  omega
theorem ndK_one {a b : Ky × Rat} : ∀ {l : Ds}, ndK l → a ∈ l → b ∈ l → a.1 = b.1 → a = b
 | e :: l, hn, ha, hb, hk => by
  unfold ndK at hn
  rw [List.map_cons, List.nodup_cons] at hn
  rcases List.mem_cons.1 ha with h1 | h1
  ·
   rcases List.mem_cons.1 hb with h2 | h2
   ·
    rw [h1, h2]
   ·
    have h3 := List.mem_map_of_mem (f := fun x : Ky × Rat => x.1) h2
    rw [← hk, h1] at h3
    exact absurd h3 hn.1
  ·
   rcases List.mem_cons.1 hb with h2 | h2
   ·
    have h3 := List.mem_map_of_mem (f := fun x : Ky × Rat => x.1) h1
    rw [hk, h2] at h3
    exact absurd h3 hn.1
   ·
    exact ndK_one hn.2 h1 h2 hk
theorem uniq_aux {α : Type} {le : α → α → Prop} {a b : List α} (h : ∀ x y, x ∈ a → y ∈ b → le x y → le y x → x = y) (h1 : a.Pairwise le) (h2 : b.Pairwise le) (p : a.Perm b) : a = b :=
 List.Perm.eq_of_pairwise h h1 h2 p
theorem srtD_unique {l l' : Ds} (hn : ndK l) (hp : l'.Perm l) (hs : l'.Pairwise fun a b => leK a.1 b.1 = true) : l' = srtD l := by
 have p := hp.trans (srtD_perm l).symm
 have q := srtD_pair l
 have m : ∀ y, y ∈ srtD l → y ∈ l := fun y hy => (srtD_perm l).mem_iff.1 hy
 generalize srtD l = s at *
 exact uniq_aux (fun x y hx hy h1 h2 => ndK_one hn (hp.mem_iff.1 hx) (m y hy) (leK_anti h1 h2)) hs q p
theorem EX_perm (g : Ky → Rat) {l l' : Ds} (h : l.Perm l') : EX g l = EX g l' := by
 induction h with
 | nil => rfl
 | cons x _ ih => obtain ⟨k, x⟩ := x; simp only [EX, ih]
 | swap x y l => obtain ⟨k, x⟩ := x; obtain ⟨k', y⟩ := y; simp only [EX]; grind
 | trans _ _ h1 h2 => exact h1.trans h2
theorem EX_nz (g : Ky → Rat) (l : Ds) : EX g (nzD l) = EX g l := by
 induction l with
 | nil => rfl
 | cons e l ih =>
  obtain ⟨k, x⟩ := e
  unfold nzD at ih ⊢
  rw [List.filter_cons]
  by_cases h : x = 0
  ·
   subst h
   simp only [ne_eq, not_true, decide_false, EX, Bool.false_eq_true, if_false, ih]
   grind
  ·
   simp only [ne_eq, h, not_false_eq_true, decide_true, if_true, EX, ih]
theorem EX_at (g : Ky → Rat) (l : Ds) : EX g (atD l) = EX g l := by rw [atD, EX_perm g (srtD_perm _), EX_nz]
theorem at_mem {l : Ds} {e : Ky × Rat} (h : e ∈ atD l) : e ∈ l ∧ e.2 ≠ 0 := by
 have h1 := (srtD_perm _).mem_iff.1 h
 unfold nzD at h1
 rw [List.mem_filter] at h1
 exact ⟨h1.1, by simpa using h1.2⟩
theorem at_len (l : Ds) : (atD l).length ≤ l.length := by
 unfold atD
 rw [(srtD_perm _).length_eq]
 exact List.length_filter_le _ _
theorem perm_lift {α β : Type} {f : β → α} {D' D : List α} (h : D'.Perm D) : ∀ Z : List β, D = Z.map f → ∃ Z' : List β, Z'.Perm Z ∧ D' = Z'.map f := by
 induction h with
 | nil => intro Z hZ; exact ⟨Z, List.Perm.refl _, hZ⟩
 | cons x _ ih =>
  intro Z hZ
  cases Z with
  | nil => cases hZ
  | cons z Z =>
   rw [List.map_cons] at hZ
   injection hZ with h1 h2
   obtain ⟨Z', p, e⟩ := ih Z h2
   exact ⟨z :: Z', p.cons z, by rw [List.map_cons, ← e, h1]⟩
 | swap x y l =>
  intro Z hZ
  match Z, hZ with
  | a :: b :: Z, hZ =>
   simp only [List.map_cons] at hZ
   injection hZ with h1 h2
   injection h2 with h2 h3
   exact ⟨b :: a :: Z, List.Perm.swap _ _ _, by simp only [List.map_cons]; rw [h1, h2, h3]⟩
 | trans _ _ ih1 ih2 =>
  intro Z hZ
  obtain ⟨Z1, p1, e1⟩ := ih2 Z hZ
  obtain ⟨Z2, p2, e2⟩ := ih1 Z1 e1
  exact ⟨Z2, p2.trans p1, e2⟩
end Go.Proofs.YtdohmppildfjhaaGreatDoor
