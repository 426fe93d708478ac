import Derived.Test.YthbcfjlalmhabaaDraw
/-! General forms of the facts on a program's types. -/
namespace Go.Eng
set_option linter.unusedSimpArgs false
set_option linter.unusedVariables false
section
variable {P : Program} {w : World} {k : Kv} {t s e ty : TypeId} {i kd : IntKind} {a : Int}

theorem cvtK_u8 (hs : (P.underlying s).isSome = true) (ht : P.underlying t = some (.int .u8)) (h : 0 ≤ a ∧ a ≤ 255) : cvtK P s t (.int i a) w k = k true (.int .u8 a) w := by rw [cvtK_of hs ht, wrap_u8 h]
theorem cvtK_u16 (hs : (P.underlying s).isSome = true) (ht : P.underlying t = some (.int .u16)) (h : 0 ≤ a ∧ a ≤ 65535) : cvtK P s t (.int i a) w k = k true (.int .u16 a) w := by rw [cvtK_of hs ht, wrap_u16 h]
theorem cvtK_u32 (hs : (P.underlying s).isSome = true) (ht : P.underlying t = some (.int .u32)) (h : 0 ≤ a ∧ a ≤ 4294967295) : cvtK P s t (.int i a) w k = k true (.int .u32 a) w := by rw [cvtK_of hs ht, wrap_u32 h]
theorem cvtK_u64 (hs : (P.underlying s).isSome = true) (ht : P.underlying t = some (.int .u64)) (h : 0 ≤ a ∧ a ≤ 18446744073709551615) : cvtK P s t (.int i a) w k = k true (.int .u64 a) w := by rw [cvtK_of hs ht, wrap_u64 h]
theorem cvtK_i64 (hs : (P.underlying s).isSome = true) (ht : P.underlying t = some (.int .i64)) (h : -9223372036854775808 ≤ a ∧ a ≤ 9223372036854775807) : cvtK P s t (.int i a) w k = k true (.int .i64 a) w := by rw [cvtK_of hs ht, wrap_i64 h]
theorem cvtK_i32 (hs : (P.underlying s).isSome = true) (ht : P.underlying t = some (.int .i32)) (h : -2147483648 ≤ a ∧ a ≤ 2147483647) : cvtK P s t (.int i a) w k = k true (.int .i32 a) w := by rw [cvtK_of hs ht, wrap_i32 h]

theorem idxK_slice_n {b o len cap z m : Nat} (ht : P.underlying t = some (.slice e)) (hz : szOf P e = some z) (h : m < len) :
    idxK P t (.slice (some ⟨b, o, none⟩) len cap) (.int i (m : Int)) w k = k true (.pointer (some ⟨b, o + m * z, none⟩)) w := by
  rw [idxK_slice ht hz (by omega)]; simp
theorem idxK_slice_1 {b o len cap m : Nat} (ht : P.underlying t = some (.slice e)) (hz : szOf P e = some 1) (h : m < len) :
    idxK P t (.slice (some ⟨b, o, none⟩) len cap) (.int i (m : Int)) w k = k true (.pointer (some ⟨b, o + m, none⟩)) w := by
  rw [idxK_slice ht hz (by omega)]; simp
theorem idxK_array_n {b o n z m : Nat} (ht : P.underlying t = some (.array n e)) (hz : szOf P e = some z) (h : m < n) :
    idxK P t (.pointer (some ⟨b, o, none⟩)) (.int i (m : Int)) w k = k true (.pointer (some ⟨b, o + m * z, none⟩)) w := by
  rw [idxK_array ht hz (by omega)]; simp
theorem idxK_array_1 {b o n m : Nat} (ht : P.underlying t = some (.array n e)) (hz : szOf P e = some 1) (h : m < n) :
    idxK P t (.pointer (some ⟨b, o, none⟩)) (.int i (m : Int)) w k = k true (.pointer (some ⟨b, o + m, none⟩)) w := by
  rw [idxK_array ht hz (by omega)]; simp
theorem ixvK_n {C : List Value} {N m : Nat} {f : TypeDesc} (ht : P.underlying t = some (.array N e)) (he : P.underlying e = some f) (hf : aggD f = false) (hz : szOf P e = some 1) (h : m < N) (hC : C.length = N) :
    ixvK P t (.agg C.toArray) (.int i (m : Int)) w k = lstK C m fun τ v => k τ v w := by
  rw [ixvK_of ht he hf hz (by omega) hC]; simp
theorem fldK_one {fs : Array Field} {f : Field} {dd : TypeDesc} {C : List Value} {o j : Nat} (ht : P.underlying t = some (.struct fs)) (hf : fs[j]? = some f) (hd : P.underlying f.type = some dd) (ha : aggD dd = false) (ho : f.offset = o) (hC : o < C.length) :
    fldK P t (.agg C.toArray) j w k = lstK C o fun τ v => k τ v w := by
  subst ho
  unfold fldK runK Instr.field lstK
  simp only [Sem.run_bind, run_underlying ht, Result.andThen_ok, hf, asAgg, pure_bind, part, run_isAgg hd, ha, Bool.false_eq_true, if_false, List.getElem?_toArray]
  rw [List.getElem?_eq_getElem hC]
  rfl
theorem fldK_agg {fs : Array Field} {f : Field} {dd : TypeDesc} {C : List Value} {o j z : Nat} (ht : P.underlying t = some (.struct fs)) (hf : fs[j]? = some f) (hd : P.underlying f.type = some dd) (ha : aggD dd = true) (ho : f.offset = o) (hz : szOf P f.type = some z) :
    fldK P t (.agg C.toArray) j w k = k true (.agg ((C.drop o).take z).toArray) w := by
  subst ho
  unfold fldK runK Instr.field
  simp only [Sem.run_bind, run_underlying ht, Result.andThen_ok, hf, asAgg, pure_bind, part, run_isAgg hd, ha, if_true, run_sizeOf hz]
  simp [Sem.run, pure, resK, List.extract_eq_take_drop]
def sblK (P : Program) (b : Builtin) (ats : Array TypeId) (ty : TypeId) (cs : Array Bool) (args : List Value) (w : World) (k : Bool → Value → Prop) : Prop :=
  runK P (builtin b ats ty cs args.toArray) w fun n w' => match n with | .value v => w' = w ∧ k true v | _ => False
@[go_sem ↓] theorem stoK_builtin {b : Builtin} {d : Option Nat} {ρ : Rg} {pos : String} {af : Array Edge} {g : Option (Nat × Bool)} {xs : List Operand} {ats : Array TypeId} {k : Bool → Value → Prop} : stoK true P ⟨d, .call { callee := .builtin b, args := xs.toArray, argTypes := ats }, ty, pos, af, g⟩ ρ w k =
    evsK ρ xs fun args => sblK P b ats ty (xs.toArray.map fun | .const _ => true | _ => false) args w k := rfl
theorem sblK_len {x : Option Addr} {n c : Nat} {cs : Array Bool} {k : Bool → Value → Prop} (ht : P.underlying t = some (.slice e)) : sblK P .len #[t] ty cs [.slice x n c] w k = k true (.int .i64 n) := by
  unfold sblK runK builtin Builtin.len_
  simp only [Sem.run_bind, List.getElem?_toArray, List.getElem?_cons_zero]
  simp only [run_underlying ht, Result.andThen_ok, Sem.run, pure, resK, goInt, true_and]
theorem storeK_cell {K : Bool → World → Prop} {x : Addr} {v : Value} (hz : szOf P t = some 1) (hv : oneC v = true) : storeK P t (.pointer (some x)) v w K = stK w x v K := storeK_one hz hv
theorem storesK_all {K : Bool → World → Prop} {c C : List Value} {z m u : Nat} (hz : szOf P t = some z) (hc : c.length = z) (hC : C.length = z) (hm : m = w.heap.size) (ho : ∀ v ∈ c, oneC v = true) :
    storeK P t (.pointer (some ⟨m, 0, none⟩)) (.agg c.toArray) (w.alloc (.cells C.toArray u)) K = K true (w.alloc (.cells c.toArray u)) := by
  rw [storeK_agg hz hc, stsK_new hm (by omega) ho, setL_all C c (by omega)]
/-- A composite value of parts of one cell each. -/
def msl (P : Program) (t : TypeId) (l c : Value) (w : World) (k : Kv) : Prop := runK P (Instr.makeSlice t l c) w (k true)
@[go_sem ↓] theorem opK_makeSlice {d : Option Nat} {ρ : Rg} {pos : String} {af : Array Edge} {g : Option (Nat × Bool)} {x y : Operand} : opK true P ⟨d, .makeSlice t x y, ty, pos, af, g⟩ ρ w k = evK ρ x fun l => evK ρ y fun c => msl P t l c w k := (rfl)
theorem msl_of {y : Nat} {v : Value} {i j : IntKind} {n : Nat} (ht : P.underlying t = some (.slice e)) (hz : szOf P e = some 1) (hy : byOf P e = some y) (hze : zeOf P e = some [v]) (hn : n * y ≤ 2 ^ 47) (hn' : n < 2 ^ 62) :
    msl P t (.int i n) (.int j n) w k = k true (.slice (some ⟨w.heap.size, 0, none⟩) n n) (w.alloc (.cells (List.replicate n v).toArray e)) := by
  obtain ⟨ti, hti, hby⟩ : ∃ ti, P.info? e = some ti ∧ ti.bytes = y := by
    unfold byOf at hy
    cases hi : P.info? e with
    | none => rw [hi] at hy; cases hy
    | some ti => rw [hi] at hy; exact ⟨ti, rfl, by simpa using hy⟩
  obtain ⟨zv, hzv, hzc⟩ : ∃ zv, (P.info? e).bind (·.zero) = some zv ∧ zv.cells.toList = [v] := by
    unfold zeOf at hze
    cases hzz : (P.info? e).bind (·.zero) with
    | none => rw [hzz] at hze; cases hze
    | some zv => rw [hzz] at hze; exact ⟨zv, rfl, by simpa using hze⟩
  have hzc' : zv.cells = #[v] := by apply Array.toList_inj.1; simpa using hzc
  unfold msl runK Instr.makeSlice
  simp only [Sem.run_bind, run_underlying ht, Result.andThen_ok, asInt, asIntOf, pure_bind, run_typeInfo hti, hby]
  have hw : IntKind.i64.wrap (n : Int) = n := wrap_i64 (by omega)
  have hbig : ((y : Int) * (n : Int) > 2 ^ 48) = False := by
    have : (n * y : Nat) ≤ 2 ^ 47 := hn
    have e : ((y : Int) * (n : Int)) = ((n * y : Nat) : Int) := by rw [Nat.mul_comm]; simp
    rw [e]
    simp only [eq_iff_iff, iff_false]
    omega
  rw [hw]
  have h1 : (decide ((n : Int) < 0) || decide ((y : Int) * (n : Int) > 2 ^ 48)) = false := by
    rw [decide_eq_false (by omega), decide_eq_false (by rw [hbig]; exact id)]; rfl
  simp only [h1, Bool.false_or, Bool.or_false]
  rw [if_neg (by simp)]
  have hroomrun : ∀ (c : Nat) (w : World), (askRoom c).run P w = .ok () w := fun c w => by
    unfold askRoom
    split <;> rfl
  simp only [Sem.run_bind, hroomrun, Result.andThen_ok, run_sizeOf hz, Int.toNat_natCast, Nat.mul_one]
  by_cases h0 : n = 0
  · subst h0
    have e : ∀ Z : Array Value, (Array.map (fun x => Z[x % Z.size]!) (Array.range 0)) = #[] := fun Z => by
      apply Array.toList_inj.1; simp
    simp only [if_true, pure_bind, e]
    rfl
  · rw [if_neg h0]
    simp only [Sem.run_bind, run_zero hzv, Result.andThen_ok, hzc']
    have e : (Array.map (fun x => (#[v] : Array Value)[x % (#[v] : Array Value).size]!) (Array.range n)) = (List.replicate n v).toArray := by
      apply Array.toList_inj.1
      apply List.ext_getElem
      · simp
      · intro j h1 h2
        simp [Nat.mod_one]
    simp only [Sem.run, pure, Result.andThen_ok, e, newRow, newObj, resK]
    rfl
end
/-! slices against nil -/
theorem binK_slice_nil {P : Program} {t e : TypeId} {x y : Operand} {w : World} {k : Kv} {a : Option Addr} {n c : Nat} (ht : P.underlying t = some (.slice e)) : binK P .eql t x y (.slice a n c) (.slice none 0 0) w k = k true (.bool a.isNone) w := by
  have h : (Op.equal t (.slice a n c) (.slice none 0 0)).run P w = .ok a.isNone w := by
    show (Op.equalIn 10000 t (.slice a n c) (.slice none 0 0)).run P w = _
    unfold Op.equalIn
    rw [Sem.run_bind, run_underlying ht, Result.andThen_ok]
    cases a <;> rfl
  have h2 : (binOp .eql t (.slice a n c) (.slice none 0 0)).run P w = .ok (.bool a.isNone) w := by
    show (do pure (.bool (← Op.equal t (.slice a n c) (.slice none 0 0))) : Sem Value).run P w = _
    rw [Sem.run_bind, h]
    rfl
  unfold binK runK
  rw [show eqGuard .eql t x y (.slice a n c) (.slice none 0 0) = pure () from rfl, pure_bind, h2]
  rfl
theorem binK_slice_nnil {P : Program} {t e : TypeId} {x y : Operand} {w : World} {k : Kv} {a : Option Addr} {n c : Nat} (ht : P.underlying t = some (.slice e)) : binK P .neq t x y (.slice a n c) (.slice none 0 0) w k = k true (.bool (!a.isNone)) w := by
  have h : (Op.equal t (.slice a n c) (.slice none 0 0)).run P w = .ok a.isNone w := by
    show (Op.equalIn 10000 t (.slice a n c) (.slice none 0 0)).run P w = _
    unfold Op.equalIn
    rw [Sem.run_bind, run_underlying ht, Result.andThen_ok]
    cases a <;> rfl
  have h2 : (binOp .neq t (.slice a n c) (.slice none 0 0)).run P w = .ok (.bool (!a.isNone)) w := by
    show (do pure (.bool (!(← Op.equal t (.slice a n c) (.slice none 0 0)))) : Sem Value).run P w = _
    rw [Sem.run_bind, h]
    rfl
  unfold binK runK
  rw [show eqGuard .neq t x y (.slice a n c) (.slice none 0 0) = pure () from rfl, pure_bind, h2]
  rfl
theorem binK_ptr_nil {P : Program} {t e : TypeId} {x y : Operand} {w : World} {k : Kv} {a : Option Addr} (ht : P.underlying t = some (.pointer e)) : binK P .eql t x y (.pointer a) (.pointer none) w k = k true (.bool a.isNone) w := by
  have h : (Op.equal t (.pointer a) (.pointer none)).run P w = .ok a.isNone w := by
    show (Op.equalIn 10000 t (.pointer a) (.pointer none)).run P w = _
    unfold Op.equalIn
    rw [Sem.run_bind, run_underlying ht, Result.andThen_ok]
    cases a <;> rfl
  have h2 : (binOp .eql t (.pointer a) (.pointer none)).run P w = .ok (.bool a.isNone) w := by
    show (do pure (.bool (← Op.equal t (.pointer a) (.pointer none))) : Sem Value).run P w = _
    rw [Sem.run_bind, h]
    rfl
  unfold binK runK
  rw [show eqGuard .eql t x y (.pointer a) (.pointer none) = pure () from rfl, pure_bind, h2]
  rfl
theorem binK_ptr_nnil {P : Program} {t e : TypeId} {x y : Operand} {w : World} {k : Kv} {a : Option Addr} (ht : P.underlying t = some (.pointer e)) : binK P .neq t x y (.pointer a) (.pointer none) w k = k true (.bool (!a.isNone)) w := by
  have h : (Op.equal t (.pointer a) (.pointer none)).run P w = .ok a.isNone w := by
    show (Op.equalIn 10000 t (.pointer a) (.pointer none)).run P w = _
    unfold Op.equalIn
    rw [Sem.run_bind, run_underlying ht, Result.andThen_ok]
    cases a <;> rfl
  have h2 : (binOp .neq t (.pointer a) (.pointer none)).run P w = .ok (.bool (!a.isNone)) w := by
    show (do pure (.bool (!(← Op.equal t (.pointer a) (.pointer none)))) : Sem Value).run P w = _
    rw [Sem.run_bind, h]
    rfl
  unfold binK runK
  rw [show eqGuard .neq t x y (.pointer a) (.pointer none) = pure () from rfl, pure_bind, h2]
  rfl
theorem binK_bool {P : Program} {t : TypeId} {x y : Operand} {w : World} {k : Kv} {a b : Bool} (ht : P.underlying t = some .bool) : binK P .eql t x y (.bool a) (.bool b) w k = k true (.bool (a == b)) w := by
  have h : (Op.equal t (.bool a) (.bool b)).run P w = .ok (a == b) w := by
    show (Op.equalIn 10000 t (.bool a) (.bool b)).run P w = _
    unfold Op.equalIn
    rw [Sem.run_bind, run_underlying ht, Result.andThen_ok]
    rfl
  have h2 : (binOp .eql t (.bool a) (.bool b)).run P w = .ok (.bool (a == b)) w := by
    show (do pure (.bool (← Op.equal t (.bool a) (.bool b))) : Sem Value).run P w = _
    rw [Sem.run_bind, h]
    rfl
  unfold binK runK
  rw [show eqGuard .eql t x y (.bool a) (.bool b) = pure () from rfl, pure_bind, h2]
  rfl
theorem binK_nbool {P : Program} {t : TypeId} {x y : Operand} {w : World} {k : Kv} {a b : Bool} (ht : P.underlying t = some .bool) : binK P .neq t x y (.bool a) (.bool b) w k = k true (.bool (!(a == b))) w := by
  have h : (Op.equal t (.bool a) (.bool b)).run P w = .ok (a == b) w := by
    show (Op.equalIn 10000 t (.bool a) (.bool b)).run P w = _
    unfold Op.equalIn
    rw [Sem.run_bind, run_underlying ht, Result.andThen_ok]
    rfl
  have h2 : (binOp .neq t (.bool a) (.bool b)).run P w = .ok (.bool (!(a == b))) w := by
    show (do pure (.bool (!(← Op.equal t (.bool a) (.bool b)))) : Sem Value).run P w = _
    rw [Sem.run_bind, h]
    rfl
  unfold binK runK
  rw [show eqGuard .neq t x y (.bool a) (.bool b) = pure () from rfl, pure_bind, h2]
  rfl
theorem bitK_mask {k : IntKind} {j : Nat} {a : Int} (hj : j < k.bits) : bitK .and k a (2 ^ j - 1) = a % 2 ^ j := by
  have hpos : (0 : Int) < 2 ^ j := Int.pow_pos (by decide)
  have h1 : 2 ^ j < 2 ^ k.bits := Nat.pow_lt_pow_right (by decide) hj
  have hc : ((2 : Int) ^ j - 1) = ((2 ^ j - 1 : Nat) : Int) := by
    rw [Int.natCast_sub (Nat.one_le_two_pow)]; simp
  have e : ((BitVec.ofInt k.bits a &&& BitVec.ofInt k.bits (2 ^ j - 1)).toNat : Int) = a % 2 ^ j := by
    rw [BitVec.toNat_and, hc, BitVec.ofInt_natCast, BitVec.toNat_ofNat, Nat.mod_eq_of_lt (a := 2 ^ j - 1) (Nat.lt_of_le_of_lt (Nat.sub_le _ _) h1), Nat.and_two_pow_sub_one_eq_mod, BitVec.toNat_ofInt]
    have h0 : (0 : Int) ≤ a % ((2 ^ k.bits : Nat) : Int) := Int.emod_nonneg _ (by have := Nat.two_pow_pos k.bits; omega)
    rw [Int.natCast_emod, Int.toNat_of_nonneg h0]
    have : ((2 ^ j : Nat) : Int) ∣ ((2 ^ k.bits : Nat) : Int) := Int.natCast_dvd_natCast.2 (Nat.pow_dvd_pow 2 (Nat.le_of_lt hj))
    rw [Int.emod_emod_of_dvd _ this]
    simp
  show k.wrap ((BitVec.ofInt k.bits a &&& BitVec.ofInt k.bits (2 ^ j - 1)).toNat : Int) = _
  rw [e]
  have h2 : a % 2 ^ j < 2 ^ j := Int.emod_lt_of_pos _ hpos
  have h3 : 0 ≤ a % 2 ^ j := Int.emod_nonneg _ (by omega)
  have h4 : (2 : Int) ^ j ≤ 2 ^ (k.bits - 1) := by
    have : 2 ^ j ≤ 2 ^ (k.bits - 1) := Nat.pow_le_pow_right (by decide) (by omega)
    exact_mod_cast this
  have h5 : (2 : Int) ^ (k.bits - 1) ≤ 2 ^ k.bits := by
    have : 2 ^ (k.bits - 1) ≤ 2 ^ k.bits := Nat.pow_le_pow_right (by decide) (by omega)
    exact_mod_cast this
  unfold IntKind.wrap
  have h6 : a % 2 ^ j % 2 ^ k.bits = a % 2 ^ j := Int.emod_eq_of_lt h3 (by omega)
  rw [h6, if_neg]
  simp only [ge_iff_le, Bool.and_eq_true, decide_eq_true_eq, not_and]
  intro _
  omega
theorem binK_mask {P : Program} {k : IntKind} (j : Nat) {m q : Int} {t : TypeId} {x y : Operand} {w : World} {kk : Kv} {a : Int} (hj : j < k.bits) (hm : m = 2 ^ j - 1) (hq : q = 2 ^ j) : binK P .and t x y (.int k a) (.int k m) w kk = kk true (.int k (a % q)) w := by
  rw [binK_and, hm, hq, bitK_mask hj]
end Go.Eng
