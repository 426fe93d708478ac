import Derived.Test.YtnfmpphlkalbfaaGreatDoorKc
import Derived.Test.YtnfmpphlkalbfaaGreatDoorE6
/-! Package bounds: a long series, over one line (plain). -/
namespace Go.Proofs.YtnfmpphlkalbfaaGreatDoor
set_option linter.unusedVariables false
/-- The terms of e to the p by q, the sums, over their own lines. -/
def tnf (p q : Nat) : Nat → Nat × Nat
  | 0 => (1, 1)
  | n + 1 => ((tnf p q n).1 * p, (tnf p q n).2 * (q * (n + 1)))
def snf (p q : Nat) : Nat → Nat × Nat
  | 0 => (1, 1)
  | n + 1 => ((snf p q n).1 * (tnf p q (n + 1)).2 + (tnf p q (n + 1)).1 * (snf p q n).2, (snf p q n).2 * (tnf p q (n + 1)).2)
def qr (x : Nat × Nat) : Rat := (((x.1 : Nat) : Int) : Rat) / (((x.2 : Nat) : Int) : Rat)
theorem tnf_pos {p q : Nat} (hq : 0 < q) (n : Nat) : 0 < (tnf p q n).2 := by
  induction n with
  | zero => exact Nat.one_pos
  | succ n ih => exact Nat.mul_pos ih (Nat.mul_pos hq (by omega))
theorem snf_pos {p q : Nat} (hq : 0 < q) (n : Nat) : 0 < (snf p q n).2 := by
  induction n with
  | zero => exact Nat.one_pos
  | succ n ih => exact Nat.mul_pos ih (tnf_pos hq (n + 1))
theorem cast_ne {n : Nat} (h : 0 < n) : (((n : Nat) : Int) : Rat) ≠ 0 := fun e => by
  have h1 : ((0 : Int) : Rat) < (((n : Nat) : Int) : Rat) := Rat.intCast_lt_intCast.2 (by omega)
  rw [e] at h1
  exact Rat.lt_irrefl h1
theorem cm (a b : Nat) : (((a * b : Nat) : Int) : Rat) = (((a : Nat) : Int) : Rat) * (((b : Nat) : Int) : Rat) := by simp
theorem ca (a b : Nat) : (((a + b : Nat) : Int) : Rat) = (((a : Nat) : Int) : Rat) + (((b : Nat) : Int) : Rat) := by simp
theorem qr_one : qr (1, 1) = 1 := by decide +kernel
theorem tnf_tau {p q : Nat} (hq : 0 < q) (n : Nat) : qr (tnf p q n) = tau ((((p : Nat) : Int) : Rat) / (((q : Nat) : Int) : Rat)) n := by
  induction n with
  | zero => exact qr_one
  | succ n ih =>
    have h1 := cast_ne (tnf_pos (p := p) hq n)
    have h2 := cast_ne hq
    have h3 := cast_ne (show 0 < n + 1 by omega)
    rw [show tau ((((p : Nat) : Int) : Rat) / (((q : Nat) : Int) : Rat)) (n + 1) = tau ((((p : Nat) : Int) : Rat) / (((q : Nat) : Int) : Rat)) n * ((((p : Nat) : Int) : Rat) / (((q : Nat) : Int) : Rat) * (1 / ((n + 1 : Nat) : Int))) from rfl, ← ih]
    unfold qr
    rw [show (tnf p q (n + 1)).1 = (tnf p q n).1 * p from rfl, show (tnf p q (n + 1)).2 = (tnf p q n).2 * (q * (n + 1)) from rfl, cm, cm, cm]
    generalize (((n + 1 : Nat) : Int) : Rat) = k at *
    generalize (((p : Nat) : Int) : Rat) = P at *
    generalize (((q : Nat) : Int) : Rat) = Q at *
    generalize ((((tnf p q n).1 : Nat) : Int) : Rat) = A at *
    generalize ((((tnf p q n).2 : Nat) : Int) : Rat) = B at *
    grind
theorem snf_Sx {p q : Nat} (hq : 0 < q) (n : Nat) : qr (snf p q n) = Sx ((((p : Nat) : Int) : Rat) / (((q : Nat) : Int) : Rat)) n := by
  induction n with
  | zero => exact qr_one
  | succ n ih =>
    have h1 := cast_ne (snf_pos (p := p) hq n)
    have h2 := cast_ne (tnf_pos (p := p) hq (n + 1))
    rw [show Sx ((((p : Nat) : Int) : Rat) / (((q : Nat) : Int) : Rat)) (n + 1) = Sx ((((p : Nat) : Int) : Rat) / (((q : Nat) : Int) : Rat)) n + tau ((((p : Nat) : Int) : Rat) / (((q : Nat) : Int) : Rat)) (n + 1) from rfl, ← ih, ← tnf_tau hq]
    unfold qr
    rw [show (snf p q (n + 1)).1 = (snf p q n).1 * (tnf p q (n + 1)).2 + (tnf p q (n + 1)).1 * (snf p q n).2 from rfl, show (snf p q (n + 1)).2 = (snf p q n).2 * (tnf p q (n + 1)).2 from rfl, ca, cm, cm, cm]
    generalize ((((tnf p q (n + 1)).1 : Nat) : Int) : Rat) = A at *
    generalize ((((tnf p q (n + 1)).2 : Nat) : Int) : Rat) = B at *
    generalize ((((snf p q n).1 : Nat) : Int) : Rat) = C at *
    generalize ((((snf p q n).2 : Nat) : Int) : Rat) = D at *
    grind
/-- Both, summed up. -/
def hnf (p q : Nat) : Nat × Nat := ((snf p q 24).1 * (tnf p q 24).2 + (tnf p q 24).1 * (snf p q 24).2, (snf p q 24).2 * (tnf p q 24).2)
theorem hnf_eq {p q : Nat} (hq : 0 < q) : qr (hnf p q) = Sx ((((p : Nat) : Int) : Rat) / (((q : Nat) : Int) : Rat)) 24 + tau ((((p : Nat) : Int) : Rat) / (((q : Nat) : Int) : Rat)) 24 := by
  have h1 := cast_ne (snf_pos (p := p) hq 24)
  have h2 := cast_ne (tnf_pos (p := p) hq 24)
  rw [← snf_Sx hq, ← tnf_tau hq]
  unfold qr hnf
  simp only []
  rw [ca, cm, cm, cm]
  generalize ((((tnf p q 24).1 : Nat) : Int) : Rat) = A at *
  generalize ((((tnf p q 24).2 : Nat) : Int) : Rat) = B at *
  generalize ((((snf p q 24).1 : Nat) : Int) : Rat) = C at *
  generalize ((((snf p q 24).2 : Nat) : Int) : Rat) = D at *
  grind
def bbL : Nat → Nat
  | 0 => 1
  | n + 1 => bbL n + (n + 2)
theorem bbL_mono {n m : Nat} (h : n ≤ m) : bbL n ≤ bbL m := by
  induction h with
  | refl => exact Nat.le_refl _
  | step _ ih =>
    rename_i k _
    rw [show bbL (k + 1) = bbL k + (k + 2) from rfl]
    omega
theorem exp_prod2 {A : Nat} {L H L' H' : Rat} (hl : 1 ≤ L) (hl' : 1 ≤ L') (h1 : L ≤ H') (h2 : L' ≤ H) : L * dn (1 / H') A ≤ 1 ∧ 1 ≤ H * up (1 / L') A := by
  have d := dn_le (1 / H') A
  have u := up_ge (1 / L') A
  have e1 : 1 / H' * H' = 1 := by grind
  have e2 : 1 / L' * L' = 1 := by grind
  have p1 := inv_pos' (a := H') (by grind)
  have p2 := inv_pos' (a := L') (by grind)
  generalize 1 / H' = v at *
  generalize 1 / L' = w at *
  constructor
  · have h1 : L * dn v A ≤ L * v := Rat.mul_le_mul_of_nonneg_left d (by grind)
    have h2 : L * v ≤ H' * v := Rat.mul_le_mul_of_nonneg_right (by grind) (by grind)
    grind
  · have h1 : H * w ≤ H * up w A := Rat.mul_le_mul_of_nonneg_left u (by grind)
    have h2 : L' * w ≤ H * w := Rat.mul_le_mul_of_nonneg_right (by grind) (by grind)
    grind
theorem exp_le {x L H L' H' : Rat} (h : ExpB x L H) (h' : ExpB x L' H') : L ≤ H' := by
  obtain ⟨N, hN⟩ := h.lo
  exact Rat.le_trans hN (h'.hi N)
end Go.Proofs.YtnfmpphlkalbfaaGreatDoor

/-! Arrays of truths, told by a list. -/
namespace Go.Vx
open Go.Eng
set_option linter.unusedSimpArgs false
set_option linter.unusedVariables false
/-- Ways that come together: what follows is shown once (its statement is found by the first way). -/
structure Hid (T : Prop) : Prop where
  out : T
def arrB (S : List Bool) : List V := S.map fun b => .lit (.bool b)
def fls (n : Nat) : List Bool := List.replicate n false
theorem arrB_len (S : List Bool) : (arrB S).length = S.length := by simp [arrB]
theorem fls_len (n : Nat) : (fls n).length = n := by simp [fls]
section
variable {F : FV} {KK : Ob → Prop} {S T : List Bool} {i n : Nat}
@[go_sem ↓ high] theorem arrB_rep : List.map V.lit (List.replicate n (Value.bool false)) = arrB (fls n) := by simp [arrB, fls]
@[go_sem ↓ high] theorem allOne_fls {p : Prop} : allOne (List.replicate n (Value.bool false)) p = p := by
  unfold allOne
  rw [if_pos]
  exact List.all_eq_true.2 fun c hc => by rw [List.eq_of_mem_replicate hc]; rfl
@[go_sem ↓ high] theorem rdO_arr (h : i < S.length) : rdO (.cells (arrB S)) 1 i 0 none F = F true (.lit (.bool (S.getD i false))) := by
  rw [rdO_cell]
  unfold atK arrB adr
  rw [Nat.mul_one, Nat.add_zero, List.getElem?_map, List.getElem?_eq_getElem h]
  simp [List.getD_eq_getElem?_getD, h]
@[go_sem ↓ high] theorem rdO_arrs {z : Nat} (h : S.length = n) : rdO (.cells (arrB S)) z 0 0 (some n) F = F true (.agg (arrB S)) := by
  rw [rdO_cells]
  unfold tkK adr
  rw [Nat.zero_mul, Nat.add_zero, Nat.zero_add, if_pos (by rw [arrB_len]; omega), List.drop_zero, List.take_of_length_le (by rw [arrB_len]; omega)]
@[go_sem ↓ high] theorem wrO_arr {x : Bool} (h : i < S.length) : wrO (.cells (arrB S)) 1 i 0 [.lit (.bool x)] KK = KK (.cells (arrB (S.set i x))) := by
  rw [wrO_cells]
  unfold wrK adr
  rw [Nat.mul_one, Nat.add_zero, if_pos (by rw [arrB_len]; exact h)]
  congr 2
  unfold arrB
  rw [List.map_set, List.set_eq_take_append_cons_drop, if_pos (by simpa using h)]
  simp
@[go_sem ↓ high] theorem wrO_arrs {z : Nat} (h : S.length = T.length) : wrO (.cells (arrB S)) z 0 0 (arrB T) KK = KK (.cells (arrB T)) := by
  rw [wrO_cells]
  unfold wrK adr
  rw [Nat.zero_mul, Nat.add_zero, Nat.zero_add, if_pos (by rw [arrB_len, arrB_len]; omega), List.take_zero, List.nil_append, List.drop_of_length_le (by rw [arrB_len, arrB_len]; omega), List.append_nil]
@[go_sem ↓ high] theorem lenK_arr {p : Prop} (h : S.length = n) : lenK (arrB S) n p = p := by rw [lenK_of (by rw [arrB_len]; exact h)]
theorem mVs_arr {ok : Nat → Bool} {π : Pi} {σ : St} : ∀ (S : List Bool), mVs ok π σ (arrB S) (arrB S)
  | [] => by simp [arrB, mVs]
  | b :: S => by
    show mV ok π σ (.lit (.bool b)) (.lit (.bool b)) ∧ mVs ok π σ (arrB S) (arrB S)
    exact ⟨by simp [mV], mVs_arr S⟩
@[go_sem ↓ high] theorem mVs_arrT {ok : Nat → Bool} {π : Pi} {σ : St} : mVs ok π σ (arrB S) (arrB S) = True := eq_true (mVs_arr S)
theorem renL_arr0 {f : Nat → Nat} : ∀ (S : List Bool), renL f (arrB S) = arrB S
  | [] => by simp [arrB, renL]
  | b :: S => by
    show renV f (.lit (.bool b)) :: renL f (arrB S) = _
    rw [renL_arr0 S]
    simp [renV, arrB]
@[go_sem ↓ high] theorem renL_arr {f : Nat → Nat} : renL f (arrB S) = arrB S := renL_arr0 S
end
end Go.Vx
