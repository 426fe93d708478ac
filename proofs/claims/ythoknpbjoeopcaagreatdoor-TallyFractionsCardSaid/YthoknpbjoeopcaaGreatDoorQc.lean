import Derived.Test.YthoknpbjoeopcaaGreatDoorQb
import Derived.Test.YthoknpbjoeopcaaGreatDoorE6
/-! Law 7: a fixed fact; RatSums, RatField. -/
namespace Go.Proofs.YthoknpbjoeopcaaGreatDoor
open Go.Eng Go.Vx
set_option linter.unusedSimpArgs false
set_option linter.unusedVariables false
set_option maxRecDepth 100000
theorem RS_small {z : Int} (h : z.natAbs < 18446744073709551616) : RS 1 (z : Rat) := RS_int (wg_one h) (by decide)
theorem cmpQ_eq0 (x : Rat) : cmpQ x x = 0 := by
  unfold cmpQ
  rw [if_neg (Rat.lt_irrefl), if_neg (Rat.lt_irrefl)]
end Go.Proofs.YthoknpbjoeopcaaGreatDoor

/-! Arrays of truths, told by a list. -/
namespace Go.Vx
open Go.Eng
set_option linter.unusedSimpArgs false
set_option linter.unusedVariables false
/-- Ways that come together: what follows is shown once (its statement is found by the first way). -/
structure Hid (T : Prop) : Prop where
  out : T
def arrB (S : List Bool) : List V := S.map fun b => .lit (.bool b)
def fls (n : Nat) : List Bool := List.replicate n false
theorem arrB_len (S : List Bool) : (arrB S).length = S.length := by simp [arrB]
theorem fls_len (n : Nat) : (fls n).length = n := by simp [fls]
section
variable {F : FV} {KK : Ob → Prop} {S T : List Bool} {i n : Nat}
@[go_sem ↓ high] theorem arrB_rep : List.map V.lit (List.replicate n (Value.bool false)) = arrB (fls n) := by simp [arrB, fls]
@[go_sem ↓ high] theorem allOne_fls {p : Prop} : allOne (List.replicate n (Value.bool false)) p = p := by
  unfold allOne
  rw [if_pos]
  exact List.all_eq_true.2 fun c hc => by rw [List.eq_of_mem_replicate hc]; rfl
@[go_sem ↓ high] theorem rdO_arr (h : i < S.length) : rdO (.cells (arrB S)) 1 i 0 none F = F true (.lit (.bool (S.getD i false))) := by
  rw [rdO_cell]
  unfold atK arrB adr
  rw [Nat.mul_one, Nat.add_zero, List.getElem?_map, List.getElem?_eq_getElem h]
  simp [List.getD_eq_getElem?_getD, h]
@[go_sem ↓ high] theorem rdO_arrs {z : Nat} (h : S.length = n) : rdO (.cells (arrB S)) z 0 0 (some n) F = F true (.agg (arrB S)) := by
  rw [rdO_cells]
  unfold tkK adr
  rw [Nat.zero_mul, Nat.add_zero, Nat.zero_add, if_pos (by rw [arrB_len]; omega), List.drop_zero, List.take_of_length_le (by rw [arrB_len]; omega)]
@[go_sem ↓ high] theorem wrO_arr {x : Bool} (h : i < S.length) : wrO (.cells (arrB S)) 1 i 0 [.lit (.bool x)] KK = KK (.cells (arrB (S.set i x))) := by
  rw [wrO_cells]
  unfold wrK adr
  rw [Nat.mul_one, Nat.add_zero, if_pos (by rw [arrB_len]; exact h)]
  congr 2
  unfold arrB
  rw [List.map_set, List.set_eq_take_append_cons_drop, if_pos (by simpa using h)]
  simp
@[go_sem ↓ high] theorem wrO_arrs {z : Nat} (h : S.length = T.length) : wrO (.cells (arrB S)) z 0 0 (arrB T) KK = KK (.cells (arrB T)) := by
  rw [wrO_cells]
  unfold wrK adr
  rw [Nat.zero_mul, Nat.add_zero, Nat.zero_add, if_pos (by rw [arrB_len, arrB_len]; omega), List.take_zero, List.nil_append, List.drop_of_length_le (by rw [arrB_len, arrB_len]; omega), List.append_nil]
@[go_sem ↓ high] theorem lenK_arr {p : Prop} (h : S.length = n) : lenK (arrB S) n p = p := by rw [lenK_of (by rw [arrB_len]; exact h)]
theorem mVs_arr {ok : Nat → Bool} {π : Pi} {σ : St} : ∀ (S : List Bool), mVs ok π σ (arrB S) (arrB S)
  | [] => by simp [arrB, mVs]
  | b :: S => by
    show mV ok π σ (.lit (.bool b)) (.lit (.bool b)) ∧ mVs ok π σ (arrB S) (arrB S)
    exact ⟨by simp [mV], mVs_arr S⟩
@[go_sem ↓ high] theorem mVs_arrT {ok : Nat → Bool} {π : Pi} {σ : St} : mVs ok π σ (arrB S) (arrB S) = True := eq_true (mVs_arr S)
theorem renL_arr0 {f : Nat → Nat} : ∀ (S : List Bool), renL f (arrB S) = arrB S
  | [] => by simp [arrB, renL]
  | b :: S => by
    show renV f (.lit (.bool b)) :: renL f (arrB S) = _
    rw [renL_arr0 S]
    simp [renV, arrB]
@[go_sem ↓ high] theorem renL_arr {f : Nat → Nat} : renL f (arrB S) = arrB S := renL_arr0 S
end
end Go.Vx
