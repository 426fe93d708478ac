import Derived.Test.YthbcfjlalmhabaaFacts
/-! Helpers for walks: lists of bytes and of numbers in memory, bits. -/
namespace Go.Eng
set_option linter.unusedSimpArgs false
set_option linter.unusedVariables false

def u8v (b : UInt8) : Value := .int .u8 (b.toNat : Int)
theorem u8v_one (l : List UInt8) : ∀ v ∈ l.map u8v, oneC v = true := by
  intro v hv
  obtain ⟨b, _, rfl⟩ := List.mem_map.1 hv
  rfl
theorem Row.get {α : Type} [Inhabited α] {enc : α → Value} {w : World} {a : Option Addr} {l : List α} (h : Row w a (l.map enc)) {m : Nat} (hm : m < l.length) (F : Bool → Value → Prop) :
    Eng.cellK w ⟨ab a, ao a + m, none⟩ F = F true (enc (l.getD m default)) := by
  rw [h.cellK (m := m) (by simpa using hm)]
  simp [List.getD_eq_getElem?_getD, List.getElem?_eq_getElem hm]
theorem Row.takeM {α : Type} {enc : α → Value} {w : World} {a : Option Addr} {l : List α} (h : Row w a (l.map enc)) (n : Nat) : Row w a ((l.take n).map enc) := by
  rw [List.map_take]; exact Row.take h n
theorem getD_take {α : Type} [Inhabited α] (l : List α) (n m : Nat) (h : m < n) : (l.take n).getD m default = l.getD m default := by
  simp [List.getD_eq_getElem?_getD, List.getElem?_take, h]
theorem take_succ_getD {α : Type} [Inhabited α] (l : List α) (i : Nat) (h : i < l.length) : l.take (i + 1) = l.take i ++ [l.getD i default] := by
  rw [List.take_succ_eq_append_getElem h]
  simp [List.getD_eq_getElem?_getD, List.getElem?_eq_getElem h]

/-! bits of natural numbers -/
theorem bitN (op : BinOp) (k : IntKind) (B : Nat) (hB : k.bits = B) (hs : k.signed = false) (x y : Nat) (hx : x < 2 ^ B) (hy : y < 2 ^ B) :
    bitK .xor k (x : Int) (y : Int) = ((x ^^^ y : Nat) : Int) ∧ bitK .and k (x : Int) (y : Int) = ((x &&& y : Nat) : Int) ∧ bitK .or k (x : Int) (y : Int) = ((x ||| y : Nat) : Int) := by
  subst hB
  have hw : ∀ z : Nat, z < 2 ^ k.bits → k.wrap (z : Int) = (z : Int) := fun z hz => by
    unfold IntKind.wrap
    rw [hs]
    have : ((z : Int) % (2 ^ k.bits : Int)) = z := Int.emod_eq_of_lt (by omega) (by exact_mod_cast hz)
    simp [this]
  have e1 : (BitVec.ofInt k.bits (x : Int) ^^^ BitVec.ofInt k.bits (y : Int)).toNat = x ^^^ y := by
    rw [BitVec.toNat_xor, BitVec.ofInt_natCast, BitVec.ofInt_natCast, BitVec.toNat_ofNat, BitVec.toNat_ofNat, Nat.mod_eq_of_lt hx, Nat.mod_eq_of_lt hy]
  have e2 : (BitVec.ofInt k.bits (x : Int) &&& BitVec.ofInt k.bits (y : Int)).toNat = x &&& y := by
    rw [BitVec.toNat_and, BitVec.ofInt_natCast, BitVec.ofInt_natCast, BitVec.toNat_ofNat, BitVec.toNat_ofNat, Nat.mod_eq_of_lt hx, Nat.mod_eq_of_lt hy]
  have e3 : (BitVec.ofInt k.bits (x : Int) ||| BitVec.ofInt k.bits (y : Int)).toNat = x ||| y := by
    rw [BitVec.toNat_or, BitVec.ofInt_natCast, BitVec.ofInt_natCast, BitVec.toNat_ofNat, BitVec.toNat_ofNat, Nat.mod_eq_of_lt hx, Nat.mod_eq_of_lt hy]
  refine ⟨?_, ?_, ?_⟩
  · show k.wrap ((BitVec.ofInt k.bits (x : Int) ^^^ BitVec.ofInt k.bits (y : Int)).toNat : Int) = _
    rw [e1]; exact hw _ (Nat.xor_lt_two_pow hx hy)
  · show k.wrap ((BitVec.ofInt k.bits (x : Int) &&& BitVec.ofInt k.bits (y : Int)).toNat : Int) = _
    rw [e2]; exact hw _ (Nat.and_lt_two_pow _ hy)
  · show k.wrap ((BitVec.ofInt k.bits (x : Int) ||| BitVec.ofInt k.bits (y : Int)).toNat : Int) = _
    rw [e3]; exact hw _ (Nat.or_lt_two_pow hx hy)
theorem xor_u32 {x y : Nat} (hx : x < 4294967296) (hy : y < 4294967296) : bitK .xor .u32 (x : Int) (y : Int) = ((x ^^^ y : Nat) : Int) := (bitN .xor .u32 32 rfl rfl x y hx hy).1
theorem xor_u8 {x y : Nat} (hx : x < 256) (hy : y < 256) : bitK .xor .u8 (x : Int) (y : Int) = ((x ^^^ y : Nat) : Int) := (bitN .xor .u8 8 rfl rfl x y hx hy).1
theorem and_u32 {x y : Nat} (hx : x < 4294967296) (hy : y < 4294967296) : bitK .and .u32 (x : Int) (y : Int) = ((x &&& y : Nat) : Int) := (bitN .xor .u32 32 rfl rfl x y hx hy).2.1
theorem or_u8 {x y : Nat} (hx : x < 256) (hy : y < 256) : bitK .or .u8 (x : Int) (y : Int) = ((x ||| y : Nat) : Int) := (bitN .xor .u8 8 rfl rfl x y hx hy).2.2
theorem and_u8 {x y : Nat} (hx : x < 256) (hy : y < 256) : bitK .and .u8 (x : Int) (y : Int) = ((x &&& y : Nat) : Int) := (bitN .xor .u8 8 rfl rfl x y hx hy).2.1
theorem xor_u64 {x y : Nat} (hx : x < 18446744073709551616) (hy : y < 18446744073709551616) : bitK .xor .u64 (x : Int) (y : Int) = ((x ^^^ y : Nat) : Int) := (bitN .xor .u64 64 rfl rfl x y hx hy).1
theorem and_u64 {x y : Nat} (hx : x < 18446744073709551616) (hy : y < 18446744073709551616) : bitK .and .u64 (x : Int) (y : Int) = ((x &&& y : Nat) : Int) := (bitN .xor .u64 64 rfl rfl x y hx hy).2.1
theorem or_u64 {x y : Nat} (hx : x < 18446744073709551616) (hy : y < 18446744073709551616) : bitK .or .u64 (x : Int) (y : Int) = ((x ||| y : Nat) : Int) := (bitN .xor .u64 64 rfl rfl x y hx hy).2.2

end Go.Eng
