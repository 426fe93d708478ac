import Derived.Test.YtpkfddfkacijoaaTe
namespace Go.Vx
open Go.Eng
set_option linter.unusedSimpArgs false
set_option linter.unusedVariables false
def arrI (S : List Int) : List V := S.map fun b => .lit (.int .i64 b)
def zrs (n : Nat) : List Int := List.replicate n 0
theorem arrI_len (S : List Int) : (arrI S).length = S.length := by simp [arrI]
section
variable {F : FV} {KK : Ob → Prop} {S T : List Int} {i n : Nat}
@[go_sem ↓ high] theorem rdO_ari (h : i < S.length) : rdO (.cells (arrI S)) 1 i 0 none F = F true (.lit (.int .i64 (S.getD i 0))) := by
  rw [rdO_cell]
  unfold atK arrI adr
  rw [Nat.mul_one, Nat.add_zero, List.getElem?_map, List.getElem?_eq_getElem h]
  simp [List.getD_eq_getElem?_getD, h]
@[go_sem ↓ high] theorem rdO_aris {z : Nat} (h : S.length = n) : rdO (.cells (arrI S)) z 0 0 (some n) F = F true (.agg (arrI S)) := by
  rw [rdO_cells]
  unfold tkK adr
  rw [Nat.zero_mul, Nat.add_zero, Nat.zero_add, if_pos (by rw [arrI_len]; omega), List.drop_zero, List.take_of_length_le (by rw [arrI_len]; omega)]
@[go_sem ↓ high] theorem wrO_ari {x : Int} (h : i < S.length) : wrO (.cells (arrI S)) 1 i 0 [.lit (.int .i64 x)] KK = KK (.cells (arrI (S.set i x))) := by
  rw [wrO_cells]
  unfold wrK adr
  rw [Nat.mul_one, Nat.add_zero, if_pos (by rw [arrI_len]; exact h)]
  congr 2
  unfold arrI
  rw [List.map_set, List.set_eq_take_append_cons_drop, if_pos (by simpa using h)]
  simp
theorem mVs_ari {ok : Nat → Bool} {π : Pi} {σ : St} : ∀ (S : List Int), mVs ok π σ (arrI S) (arrI S)
  | [] => by simp [arrI, mVs]
  | b :: S => by
    show mV ok π σ (.lit (.int .i64 b)) (.lit (.int .i64 b)) ∧ mVs ok π σ (arrI S) (arrI S)
    exact ⟨by simp [mV], mVs_ari S⟩
@[go_sem ↓ high] theorem mVs_ariT {ok : Nat → Bool} {π : Pi} {σ : St} : mVs ok π σ (arrI S) (arrI S) = True := eq_true (mVs_ari S)
@[go_sem ↓ high] theorem atK_ari {m : Nat} {G : V → Prop} (h : m < S.length) : atK (arrI S) m G = G (.lit (.int .i64 (S.getD m 0))) := by
  unfold atK arrI
  rw [List.getElem?_map, List.getElem?_eq_getElem h]
  simp [List.getD_eq_getElem?_getD, h]
end
end Go.Vx
