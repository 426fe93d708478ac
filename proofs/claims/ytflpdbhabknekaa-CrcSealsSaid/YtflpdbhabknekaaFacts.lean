import Derived.Test.YtflpdbhabknekaaFct
import Derived.Test.YtflpdbhabknekaaProg
import Derived.KernelRfl
/-! Facts on the program's types, printed by a program of the prover's own. -/
namespace Go.Proofs.Ytflpdbhabknekaa
open Go.Eng
set_option linter.unusedVariables false
set_option linter.unusedSimpArgs false
section
variable {w : World} {k : Kv} {i : IntKind} {a : Int}
@[go_sem ↓] theorem ln_22 {x : Option Addr} {n c : Nat} {cs : Array Bool} {ty : TypeId} : bltK Try.prog .len #[22] ty cs [.slice x n c] w k = k true (.int .i64 n) w := bltK_len_slice (e := 5) (by kernel_rfl)
@[go_sem ↓] theorem lns_22 {x : Option Addr} {n c : Nat} {cs : Array Bool} {ty : TypeId} {k : Bool → Value → Prop} : sblK Try.prog .len #[22] ty cs [.slice x n c] w k = k true (.int .i64 n) := sblK_len (e := 5) (by kernel_rfl)
@[go_sem ↓] theorem ix_22 {b o len cap : Nat} (h : 0 ≤ a ∧ a < len) : idxK Try.prog 22 (.slice (some ⟨b, o, none⟩) len cap) (.int i a) w k = k true (.pointer (some ⟨b, o + a.toNat * 1, none⟩)) w := idxK_slice (e := 5) (by kernel_rfl) (by kernel_rfl) h
@[go_sem ↓ high] theorem ixn_22 {b o len cap m : Nat} (h : m < len) : idxK Try.prog 22 (.slice (some ⟨b, o, none⟩) len cap) (.int i (m : Int)) w k = k true (.pointer (some ⟨b, o + m, none⟩)) w := idxK_slice_1 (e := 5) (by kernel_rfl) (by kernel_rfl) h
theorem ixr_22 {u : Option Addr} {cs : List Value} {len cap m : Nat} (h : Row w u cs) (hl : cs.length = len) (hm : m < len) (w' : World) : idxK Try.prog 22 (.slice u len cap) (.int i (m : Int)) w' k = k true (.pointer (some ⟨ab u, ao u + m, none⟩)) w' := by have := h.idx (cap := cap) (len := len) (m := m) (i := i) (k := k) (e := 5) (z := 1) (P := Try.prog) (t := 22) (by omega) (by decide) (by kernel_rfl) (by kernel_rfl) hm w'; simpa using this
@[go_sem ↓] theorem ld_5 {x : Addr} : loadK Try.prog 5 (.pointer (some x)) w k = cellK w x fun τ v => k τ v w := loadK_cell (d := (Try.prog.underlying 5).getD .invalid) (by kernel_rfl) (by kernel_rfl)
@[go_sem ↓] theorem beql_22 {x y : Operand} {u : Option Addr} {n c : Nat} : binK Try.prog .eql 22 x y (.slice u n c) (.slice none 0 0) w k = k true (.bool u.isNone) w := binK_slice_nil (e := 5) (by kernel_rfl)
@[go_sem ↓] theorem bs_22_0  : bslK Try.prog 22 0 [] w k = k true (.slice (some ⟨w.heap.size, 0, none⟩) 0 0) (w.alloc (.cells ([] : List Value).toArray 5)) := bslK_one (xs := []) (e := 5) (by kernel_rfl) (by kernel_rfl) (by kernel_rfl) (by simp [oneC]) (by simp)
theorem apd_22_22 {ty : TypeId} {cst : Array Bool} {v : Value} {n m capx : Nat} {cs xs : List Value} {ax : Option Addr} (hv : OwnC w v n 1 cs) (hx : Row w ax xs) (hxl : xs.length = m * 1) (ho : ∀ v ∈ xs, oneC v = true) (hb : (n + m) * 2 * 1 ≤ 281474976710656)
    (hk : ∀ v' w', OwnC w' v' (n + m) 1 (cs ++ xs) → Ext (fpv v) w w' → (∀ b ∈ fpv v', b ∈ fpv v ∨ w.heap.size ≤ b) → k true v' w') : bltK Try.prog .append #[22, 22] ty cst [v, .slice ax m capx] w k :=
  append_own (e := 5) (e' := 5) (z := 1) (y := 1) (Z := [.int .u8 0]) (by kernel_rfl) (by kernel_rfl) (by kernel_rfl) (by kernel_rfl) (by decide) (by kernel_rfl) rfl hv hx hxl ho hb hk
theorem apf_22_22 {ty : TypeId} {cst : Array Bool} {u : Option Addr} {n m cap capx : Nat} {cs xs : List Value} {ax : Option Addr} (hrow : Row w u cs) (hl : cs.length = n * 1) (hx : Row w ax xs) (hxl : xs.length = m * 1) (ho : ∀ v ∈ xs, oneC v = true) (hfit : ¬ n + m ≤ cap) (hb : (n + m) * 2 * 1 ≤ 281474976710656)
    (hk : ∀ v' w', OwnC w' v' (n + m) 1 (cs ++ xs) → Ext [] w w' → (∀ b ∈ fpv v', w.heap.size ≤ b) → k true v' w') : bltK Try.prog .append #[22, 22] ty cst [.slice u n cap, .slice ax m capx] w k :=
  append_fresh (e := 5) (e' := 5) (z := 1) (y := 1) (Z := [.int .u8 0]) (by kernel_rfl) (by kernel_rfl) (by kernel_rfl) (by kernel_rfl) (by decide) (by kernel_rfl) rfl hrow hl hx hxl ho hfit hb hk
@[go_sem ↓] theorem cv_25_5 : cvtK Try.prog 25 5 (.int i a) w k = k true (.int .u8 (IntKind.wrap .u8 a)) w := cvtK_of (by kernel_rfl) (by kernel_rfl)
@[go_sem ↓ high] theorem cvh_25_5 (h : 0 ≤ a ∧ a ≤ 255) : cvtK Try.prog 25 5 (.int i a) w k = k true (.int .u8 a) w := cvtK_u8 (by kernel_rfl) (by kernel_rfl) h
@[go_sem ↓] theorem bs_22_4 {ki0 : IntKind} {a0 : Int} {ki1 : IntKind} {a1 : Int} {ki2 : IntKind} {a2 : Int} {ki3 : IntKind} {a3 : Int} : bslK Try.prog 22 4 [(0, .int ki0 a0), (1, .int ki1 a1), (2, .int ki2 a2), (3, .int ki3 a3)] w k = k true (.slice (some ⟨w.heap.size, 0, none⟩) 4 4) (w.alloc (.cells ([.int ki0 a0, .int ki1 a1, .int ki2 a2, .int ki3 a3] : List Value).toArray 5)) := bslK_one (xs := [.int ki0 a0, .int ki1 a1, .int ki2 a2, .int ki3 a3]) (e := 5) (by kernel_rfl) (by kernel_rfl) (by kernel_rfl) (by simp [oneC]) (by simp)
@[go_sem ↓] theorem sl_to_22 {u : Option Addr} {len cap : Nat} (h : 0 ≤ a ∧ a ≤ cap) : slcK Try.prog 22 (.slice u len cap) none (some (.int i a)) none w k = k true (.slice u a.toNat cap) w := slcK_to (e := 5) (z := 1) (by kernel_rfl) (by kernel_rfl) h
@[go_sem ↓ high] theorem sl_ton_22 {u : Option Addr} {len cap m : Nat} (h : m ≤ cap) : slcK Try.prog 22 (.slice u len cap) none (some (.int i (m : Int))) none w k = k true (.slice u m cap) w := by rw [sl_to_22 (by omega)]; simp
@[go_sem ↓] theorem bs_22_1 {ki0 : IntKind} {a0 : Int} : bslK Try.prog 22 1 [(0, .int ki0 a0)] w k = k true (.slice (some ⟨w.heap.size, 0, none⟩) 1 1) (w.alloc (.cells ([.int ki0 a0] : List Value).toArray 5)) := bslK_one (xs := [.int ki0 a0]) (e := 5) (by kernel_rfl) (by kernel_rfl) (by kernel_rfl) (by simp [oneC]) (by simp)
@[go_sem ↓] theorem al_30 : allocK Try.prog 30 w k = k true (.pointer (some ⟨w.heap.size, 0, none⟩)) (w.alloc (.cells ((List.replicate 256 (.int .u32 0)) : List Value).toArray 30)) := allocK_of (by kernel_rfl)
@[go_sem ↓] theorem cv_3_25 : cvtK Try.prog 3 25 (.int i a) w k = k true (.int .u32 (IntKind.wrap .u32 a)) w := cvtK_of (by kernel_rfl) (by kernel_rfl)
@[go_sem ↓ high] theorem cvh_3_25 (h : 0 ≤ a ∧ a ≤ 4294967295) : cvtK Try.prog 3 25 (.int i a) w k = k true (.int .u32 a) w := cvtK_u32 (by kernel_rfl) (by kernel_rfl) h
@[go_sem ↓ high] theorem mk_u32_1 {P : Program} {t : TypeId} {x y : Operand} : binK P .and t x y (.int .u32 a) (.int .u32 1) w k = k true (.int .u32 (a % 2)) w := binK_mask 1 (by decide) (by decide) (by decide)
@[go_sem ↓ high] theorem shr_u32_u64_1 {P : Program} {t : TypeId} {x y : Operand} : binK P .shr t x y (.int .u32 a) (.int .u64 1) w k = k true (.int .u32 (a / 2)) w := by rw [binK_shr_u32 (by omega)]; rfl
@[go_sem ↓] theorem ix_30 {b o : Nat} (h : 0 ≤ a ∧ a < 256) : idxK Try.prog 30 (.pointer (some ⟨b, o, none⟩)) (.int i a) w k = k true (.pointer (some ⟨b, o + a.toNat * 1, none⟩)) w := idxK_array (n := 256) (e := 25) (by kernel_rfl) (by kernel_rfl) h
@[go_sem ↓ high] theorem ixn_30 {b o m : Nat} (h : m < 256) : idxK Try.prog 30 (.pointer (some ⟨b, o, none⟩)) (.int i (m : Int)) w k = k true (.pointer (some ⟨b, o + m, none⟩)) w := idxK_array_1 (n := 256) (e := 25) (by kernel_rfl) (by kernel_rfl) h
@[go_sem ↓] theorem st_25 {K : Bool → World → Prop} {x : Addr} : storeK Try.prog 25 (.pointer (some x)) (.int i a) w K = stK w x (.int i a) K := storeK_cell (by kernel_rfl) rfl
@[go_sem ↓] theorem ld_30 {x : Addr} : loadK Try.prog 30 (.pointer (some x)) w k = cellsK w x 256 fun τ cs => k τ (.agg cs.toArray) w := loadK_agg (d := (Try.prog.underlying 30).getD .invalid) (by kernel_rfl) (by kernel_rfl) (by kernel_rfl)
@[go_sem ↓] theorem st_30 {K : Bool → World → Prop} {x : Addr} {c : List Value} (hc : c.length = 256) : storeK Try.prog 30 (.pointer (some x)) (.agg c.toArray) w K = stsK w x c K := storeK_agg (by kernel_rfl) hc
@[go_sem ↓] theorem ld_25 {x : Addr} : loadK Try.prog 25 (.pointer (some x)) w k = cellK w x fun τ v => k τ v w := loadK_cell (d := (Try.prog.underlying 25).getD .invalid) (by kernel_rfl) (by kernel_rfl)
@[go_sem ↓ high] theorem shr_u32_u64_8 {P : Program} {t : TypeId} {x y : Operand} : binK P .shr t x y (.int .u32 a) (.int .u64 8) w k = k true (.int .u32 (a / 256)) w := by rw [binK_shr_u32 (by omega)]; rfl
@[go_sem ↓] theorem cv_5_25 : cvtK Try.prog 5 25 (.int i a) w k = k true (.int .u32 (IntKind.wrap .u32 a)) w := cvtK_of (by kernel_rfl) (by kernel_rfl)
@[go_sem ↓ high] theorem cvh_5_25 (h : 0 ≤ a ∧ a ≤ 4294967295) : cvtK Try.prog 5 25 (.int i a) w k = k true (.int .u32 a) w := cvtK_u32 (by kernel_rfl) (by kernel_rfl) h
@[go_sem ↓] theorem cv_3_32 : cvtK Try.prog 3 32 (.int i a) w k = k true (.int .u64 (IntKind.wrap .u64 a)) w := cvtK_of (by kernel_rfl) (by kernel_rfl)
@[go_sem ↓ high] theorem cvh_3_32 (h : 0 ≤ a ∧ a ≤ 18446744073709551615) : cvtK Try.prog 3 32 (.int i a) w k = k true (.int .u64 a) w := cvtK_u64 (by kernel_rfl) (by kernel_rfl) h
@[go_sem ↓] theorem bs_22_9 {ki0 : IntKind} {a0 : Int} {ki1 : IntKind} {a1 : Int} {ki2 : IntKind} {a2 : Int} {ki3 : IntKind} {a3 : Int} {ki4 : IntKind} {a4 : Int} {ki5 : IntKind} {a5 : Int} {ki6 : IntKind} {a6 : Int} {ki7 : IntKind} {a7 : Int} {ki8 : IntKind} {a8 : Int} : bslK Try.prog 22 9 [(0, .int ki0 a0), (1, .int ki1 a1), (2, .int ki2 a2), (3, .int ki3 a3), (4, .int ki4 a4), (5, .int ki5 a5), (6, .int ki6 a6), (7, .int ki7 a7), (8, .int ki8 a8)] w k = k true (.slice (some ⟨w.heap.size, 0, none⟩) 9 9) (w.alloc (.cells ([.int ki0 a0, .int ki1 a1, .int ki2 a2, .int ki3 a3, .int ki4 a4, .int ki5 a5, .int ki6 a6, .int ki7 a7, .int ki8 a8] : List Value).toArray 5)) := bslK_one (xs := [.int ki0 a0, .int ki1 a1, .int ki2 a2, .int ki3 a3, .int ki4 a4, .int ki5 a5, .int ki6 a6, .int ki7 a7, .int ki8 a8]) (e := 5) (by kernel_rfl) (by kernel_rfl) (by kernel_rfl) (by simp [oneC]) (by simp)
@[go_sem ↓] theorem st_5 {K : Bool → World → Prop} {x : Addr} : storeK Try.prog 5 (.pointer (some x)) (.int i a) w K = stK w x (.int i a) K := storeK_cell (by kernel_rfl) rfl
end
end Go.Proofs.Ytflpdbhabknekaa
