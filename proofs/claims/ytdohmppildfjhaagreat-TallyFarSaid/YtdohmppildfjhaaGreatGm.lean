import Derived.Test.YtdohmppildfjhaaGreatGk
namespace Go.Proofs.YtdohmppildfjhaaGreat
open Go.Eng Go.Vx
set_option linter.unusedSimpArgs false
set_option linter.unusedVariables false
def Dk (k a : Nat) : Nat := if k = 1 then (a + 1) ^ 15 else 2 ^ 30
def kas : List (Nat × Nat) := [(1, 1), (1, 2), (1, 3), (1, 4), (2, 0), (2, 1), (3, 1), (3, 2)]
theorem kas_mem {k a w : Nat} (h : smallG k a w) : (k, a) ∈ kas := by
 obtain ⟨h, -⟩ := h
 have : (k = 1 ∧ a = 1) ∨ (k = 1 ∧ a = 2) ∨ (k = 1 ∧ a = 3) ∨ (k = 1 ∧ a = 4) ∨ (k = 2 ∧ a = 0) ∨ (k = 2 ∧ a = 1) ∨ (k = 3 ∧ a = 1) ∨ (k = 3 ∧ a = 2) := by omega
 rcases this with ⟨rfl, rfl⟩ | ⟨rfl, rfl⟩ | ⟨rfl, rfl⟩ | ⟨rfl, rfl⟩ | ⟨rfl, rfl⟩ | ⟨rfl, rfl⟩ | ⟨rfl, rfl⟩ | ⟨rfl, rfl⟩ <;> decide
theorem ch_key : ∀ ka ∈ kas, ∀ K ∈ List.range 16, ((chX ka.1 ka.2 K * ((Dk ka.1 ka.2 : Nat) : Int)).den = 1 ∧ 0 ≤ chX ka.1 ka.2 K ∧ chX ka.1 ka.2 K ≤ 1) ∧ Dk ka.1 ka.2 < 2 ^ 35 ∧ Dk ka.1 ka.2 ≠ 0 := by decide +kernel
theorem ch_ok {k a w K : Nat} (h : smallG k a w) (hK : K ≤ 15) : isI (Dk k a) (chX k a K) ∧ 0 ≤ chX k a K ∧ chX k a K ≤ 1 := by
 obtain ⟨⟨h1, h2, h3⟩, -⟩ := ch_key _ (kas_mem h) K (List.mem_range.2 (by omega))
 refine ⟨⟨(chX k a K * ((Dk k a : Nat) : Int)).num, ?_⟩, h2, h3⟩
 dsimp only at h1
 generalize chX k a K * ((Dk k a : Nat) : Int) = y at *
 exact Rat.ext rfl h1
theorem Dk_ok {k a w : Nat} (h : smallG k a w) : Dk k a < 2 ^ 35 ∧ Dk k a ≠ 0 := (ch_key _ (kas_mem h) 0 (by decide)).2
theorem wg_pw {n c : Nat} (h : 35 * n < 64 * c) : (wg (2 ^ (35 * n))).length ≤ c := wg_bl (bl_le_of (Nat.pow_lt_pow_right (by decide) h))
theorem Dk_len {k a w n : Nat} (h : smallG k a w) (hn : n ≤ 17) : (wg (Dk k a ^ n)).length ≤ 10 := by
 obtain ⟨h1, h2⟩ := Dk_ok h
 refine Nat.le_trans (wg_mono (Nat.pow_le_pow_left (Nat.le_of_lt h1) n)) ?_
 rw [← Nat.pow_mul]
 exact wg_pw (by omega)
def okS (w : Nat) (s : Ky) : Prop := ∃ K : Nat, s.1 = (K : Int) ∧ K ≤ 2 ^ w - 1 ∧ s.2.1 = 0 ∧ (s.2.2 = true → K = 2 ^ w - 1)
def eI (w N : Nat) (s : Ky) (x : Rat) : Prop := okS w s ∧ 0 ≤ x ∧ isI N x
theorem eI_add {w N : Nat} (k : Ky) (x y : Rat) (hx : eI w N k x) (hy : eI w N k y) : eI w N k (x + y) := ⟨hx.1, by have := hx.2.1; have := hy.2.1; grind, isI_add hx.2.2 hy.2.2⟩
structure StI (k a w n : Nat) (l : Ds) : Prop where
 nd : ndK l
 all : allE (eI w (Dk k a ^ n)) l
 mass : EX (fun _ => 1) l = 1
 len : l.length ≤ 2 ^ n
theorem StI.one {k a w n : Nat} {l : Ds} (h : StI k a w n l) {e : Ky × Rat} (he : e ∈ l) : e.2 ≤ 1 := by
 obtain ⟨s, x⟩ := e
 have := EX_one_le (fun e he => (h.all e he).2.1) he
 rw [h.mass] at this
 exact this
theorem StI.rs {k a w n : Nat} {l : Ds} (h : StI k a w n l) (hs : smallG k a w) (hn : n ≤ 17) : ∀ e ∈ l, RS 400000 e.2 := fun e he =>
 (RS_isI (Nat.ne_of_gt (Nat.pow_pos (Nat.pos_of_ne_zero (Dk_ok hs).2))) (Dk_len hs hn) (h.all e he).2.1 (h.one he) (h.all e he).2.2).mono (by decide)
theorem StI.ne {k a w n : Nat} {l : Ds} (h : StI k a w n l) : nzD l ≠ [] := fun e => by
 have h1 := EX_nz (fun _ => 1) l
 rw [e, h.mass] at h1
 exact absurd h1 (by decide +kernel)
theorem StI.start {k a w : Nat} : StI k a w 0 [((0, 0, false), 1)] where
 nd := by simp [ndK]
 all := fun e he => by
  simp at he
  subst he
  exact ⟨⟨0, rfl, Nat.zero_le _, rfl, by simp⟩, by decide +kernel, isI_one _⟩
 mass := by simp only [EX]; grind
 len := by simp
theorem EX_eit (g : Ky → Rat) (x : Rat) (s o : Ky) : EX g (eitD x s o) = x * g s + (1 - x) * g o := by
 unfold eitD
 rw [EX_add, EX_add]
 simp only [EX]
 grind
def stT (k a w : Nat) (g : Ky → Rat) (s : Ky) : Rat := if s.1 = ((2 ^ w - 1 : Nat) : Int) then g (s.1, s.2.1, true) else chX k a s.1.toNat * g (s.1 + 1, s.2.1, s.2.2) + (1 - chX k a s.1.toNat) * g s
theorem EX_step (k a w : Nat) (g : Ky → Rat) (s : Ky) : EX g (stepD k a w s) = stT k a w g s := by
 unfold stepD stT
 split
 ·
  simp only [EX]; grind
 ·
  exact EX_eit _ _ _ _
theorem step_ok {k a w : Nat} (hs : smallG k a w) {s : Ky} (h : okS w s) : StI k a w 1 (stepD k a w s) := by
 obtain ⟨K, hK, hK2, hT, hF⟩ := h
 obtain ⟨sK, sT, sF⟩ := s
 dsimp only at hK hT hF
 subst hK hT
 have hp : 2 ^ w ≤ 2 ^ 4 := Nat.pow_le_pow_right (by decide) hs.2.2
 have hmass : EX (fun _ => 1) (stepD k a w ((K : Int), 0, sF)) = 1 := by
  rw [EX_step]
  unfold stT
  split
  ·
   rfl
  ·
   generalize chX k a (((K : Int), (0 : Int), sF) : Ky).1.toNat = x
   grind
 unfold stepD at hmass ⊢
 dsimp only at hmass ⊢
 by_cases hKt : (K : Int) = ((2 ^ w - 1 : Nat) : Int)
 ·
  rw [if_pos hKt] at hmass ⊢
  refine ⟨by simp [ndK], fun e he => ?_, hmass, by simp⟩
  simp at he
  subst he
  exact ⟨⟨K, rfl, hK2, rfl, fun _ => by omega⟩, (show (0 : Rat) ≤ 1 by decide +kernel), isI_one _⟩
 ·
  rw [if_neg hKt] at hmass ⊢
  have hFf : sF = false := by
   cases sF with
   | false => rfl
   | true => exact absurd (hF rfl) (by omega)
  subst hFf
  rw [Int.toNat_natCast] at hmass ⊢
  obtain ⟨c1, c2, c3⟩ := ch_ok hs (K := K) (by omega)
  generalize chX k a K = x at *
  have c1' : isI (Dk k a ^ 1) x := by rw [Nat.pow_one]; exact c1
  have c2' : isI (Dk k a ^ 1) (1 - x) := by rw [Nat.pow_one]; exact isI_sub c1
  refine ⟨addD_nd (addD_nd (by simp [ndK])), ?_, hmass, ?_⟩
  ·
   refine addD_all eI_add (addD_all eI_add (fun e he => by simp at he) ?_) ?_
   ·
    exact ⟨⟨K + 1, by simp, by omega, rfl, by simp⟩, c2, c1'⟩
   ·
    exact ⟨⟨K, rfl, hK2, rfl, by simp⟩, by grind, c2'⟩
  ·
   unfold eitD addD
   refine Nat.le_trans (put_len _ _ _) ?_
   have := put_len (((K : Int) + 1, 0, false) : Ky) ((look (((K : Int) + 1, 0, false) : Ky) []).getD 0 + x) []
   simp only [List.length_nil] at this
   omega
def itD (k a w : Nat) : Nat → Ds
 | 0 => [((0, 0, false), 1)]
 | n + 1 => timesD (itD k a w n) (stepD k a w)
theorem StI.next {k a w n : Nat} {l : Ds} (hs : smallG k a w) (h : StI k a w n l) : StI k a w (n + 1) (timesD l (stepD k a w)) where
 nd := ou_nd _ _ (by simp [ndK])
 all := ou_all eI_add (fun x hx b hb => by
  have hl := h.all x (at_mem hx).1
  have hst := (step_ok hs hl.1).all b (at_mem hb).1
  refine ⟨hst.1, Rat.mul_nonneg hl.2.1 hst.2.1, ?_⟩
  have := isI_mul hl.2.2 hst.2.2
  rw [Nat.pow_one] at this
  rw [Nat.pow_succ]
  exact this) (fun e he => by simp at he)
 mass := by
  exact (EX_times _ _ _).trans ((EX_congr fun x hx => (step_ok hs (h.all x hx).1).mass).trans h.mass)
 len := by
  refine Nat.le_trans (ou_len (c := 2) _ (fun x hx => ?_) _) ?_
  ·
   exact (step_ok hs (h.all x (at_mem hx).1).1).len
  ·
   have h1 := at_len l
   have h2 := h.len
   rw [Nat.pow_succ]
   simp only [List.length_nil]
   omega
theorem it_ok {k a w : Nat} (hs : smallG k a w) : ∀ n, StI k a w n (itD k a w n)
 | 0 => StI.start
 | n + 1 => (it_ok hs n).next hs
def itT (k a w : Nat) (g : Ky → Rat) : Nat → Ky → Rat
 | 0 => g
 | n + 1 => stT k a w (itT k a w g n)
theorem EX_it {k a w : Nat} (g : Ky → Rat) : ∀ n, EX g (itD k a w n) = itT k a w g n (0, 0, false) := by
 have key : ∀ n m, EX (itT k a w g m) (itD k a w n) = itT k a w g (n + m) (0, 0, false) := by
  intro n
  induction n with
  | zero => intro m; simp only [itD, EX, Nat.zero_add]; grind
  | succ n ih =>
   intro m
   unfold itD
   rw [EX_times]
   have e : (fun s => EX (itT k a w g m) (stepD k a w s)) = itT k a w g (m + 1) := by
    funext s
    exact EX_step _ _ _ _ _
   rw [e, ih (m + 1)]
   congr 1
   omega
 intro n
 exact key n 0
theorem part_rs {k a w n : Nat} {l : Ds} (hs : smallG k a w) (hn : n ≤ 16) (h : StI k a w n l) {i j : Nat} (hi : i < (atD l).length) :
  ∀ e ∈ inD ((atD l).getD i default).2 ((atD (stepD k a w ((atD l).getD i default).1)).take j) (ouD (stepD k a w) ((atD l).take i) []), RS 400000 e.2 := by
 have hag := getD_mem (L := atD l) hi
 have hts := takeD_snoc (L := atD l) hi
 generalize hA : (atD l).getD i default = ag at *
 have hl := h.all ag (at_mem hag).1
 have hst := step_ok hs hl.1
 have hpos : ∀ e ∈ atD l, 0 ≤ e.2 := fun e he => (h.all e (at_mem he).1).2.1
 have hall : allE (eI w (Dk k a ^ (n + 1))) (inD ag.2 ((atD (stepD k a w ag.1)).take j) (ouD (stepD k a w) ((atD l).take i) [])) := by
  refine in_all eI_add (fun b hb => ?_) (ou_all eI_add (fun x hx b hb => ?_) (fun e he => by simp at he))
  ·
   have hb' := hst.all b (at_mem (List.mem_of_mem_take hb)).1
   refine ⟨hb'.1, Rat.mul_nonneg hl.2.1 hb'.2.1, ?_⟩
   have := isI_mul hl.2.2 hb'.2.2
   rw [Nat.pow_one] at this
   rw [Nat.pow_succ]
   exact this
  ·
   have hl' := h.all x (at_mem (List.mem_of_mem_take hx)).1
   have hb' := (step_ok hs hl'.1).all b (at_mem hb).1
   refine ⟨hb'.1, Rat.mul_nonneg hl'.2.1 hb'.2.1, ?_⟩
   have := isI_mul hl'.2.2 hb'.2.2
   rw [Nat.pow_one] at this
   rw [Nat.pow_succ]
   exact this
 have hm : EX (fun _ => 1) (inD ag.2 ((atD (stepD k a w ag.1)).take j) (ouD (stepD k a w) ((atD l).take i) [])) ≤ 1 := by
  rw [EX_in, EX_ou]
  have e1 : EX (fun s => EX (fun _ => 1) (stepD k a w s)) ((atD l).take i) = EX (fun _ => 1) ((atD l).take i) :=
   EX_congr fun x hx => (step_ok hs (h.all x (at_mem (List.mem_of_mem_take hx)).1).1).mass
  rw [e1]
  have e2 := EX1_mono (L := atD (stepD k a w ag.1)) (fun e he => (hst.all e (at_mem he).1).2.1) j
  rw [EX_at, hst.mass] at e2
  have e3 := EX1_mono hpos (i + 1)
  rw [hts, EX_app, EX_at, h.mass] at e3
  have e4 := Rat.mul_le_mul_of_nonneg_left e2 hl.2.1
  obtain ⟨s, x⟩ := ag
  simp only [EX] at e3 ⊢
  grind
 intro e he
 have h1 := hall e he
 have h2 : e.2 ≤ 1 := by
  obtain ⟨s, x⟩ := e
  have := EX_one_le (fun e he => (hall e he).2.1) he
  dsimp only
  grind
 exact (RS_isI (Nat.ne_of_gt (Nat.pow_pos (Nat.pos_of_ne_zero (Dk_ok hs).2))) (Dk_len hs (by omega)) h1.2.1 h2 h1.2.2).mono (by decide)
end Go.Proofs.YtdohmppildfjhaaGreat
