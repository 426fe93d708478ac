import Derived.Test.YtfemchdaoihogaaRa
/-! Digits from a place on. -/
namespace Go.Proofs.Ytfemchdaoihogaa
open Go.Eng
theorem drop_val {l : List Nat} {i B : Nat} (h : i < l.length) : valB B (l.drop i) = l.getD i 0 + B * valB B (l.drop (i + 1)) := by
  rw [List.drop_eq_getElem_cons h]
  have e : l.getD i 0 = l[i] := by simp [List.getD_eq_getElem?_getD, h]
  rw [e]
  rfl
theorem set_drop {l : List Nat} {i x : Nat} (h : i < l.length) : (l.set i x).drop i = x :: l.drop (i + 1) := by
  rw [List.drop_eq_getElem_cons (by simpa using h), List.getElem_set_self, List.drop_set_of_lt (by omega)]
end Go.Proofs.Ytfemchdaoihogaa
