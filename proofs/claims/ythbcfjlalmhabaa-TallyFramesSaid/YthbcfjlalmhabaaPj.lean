import Derived.Test.YthbcfjlalmhabaaPi
/-! Numbers of one width as bits: plain facts. -/
namespace Go.Proofs.Ythbcfjlalmhabaa
open Go.Eng
set_option linter.unusedSimpArgs false
set_option linter.unusedVariables false
def wbits (w : Nat) (N : List Nat) : List Bool := N.flatMap fun x => numBits x w
theorem wbits_len (w : Nat) : ∀ N : List Nat, (wbits w N).length = N.length * w
  | [] => by simp [wbits]
  | x :: N => by
    have ih := wbits_len w N
    show (numBits x w ++ wbits w N).length = _
    rw [List.length_append, numBits_len, ih, List.length_cons, Nat.add_mul]; omega
theorem wbits_app (w : Nat) (N M : List Nat) : wbits w (N ++ M) = wbits w N ++ wbits w M := by simp [wbits]
theorem take_succ_N {N : List Nat} {i : Nat} (h : i < N.length) : N.take (i + 1) = N.take i ++ [N.getD i 0] := by
  rw [List.take_add_one, List.getD_eq_getElem?_getD, List.getElem?_eq_getElem h]; rfl
theorem wbits_take {w i : Nat} {N : List Nat} (h : i < N.length) : wbits w (N.take (i + 1)) = wbits w (N.take i) ++ numBits (N.getD i 0) w := by
  rw [take_succ_N h, wbits_app]; simp [wbits]
theorem numBits_add (a r m : Nat) : numBits (a * 2 ^ m + r) m = numBits r m := by
  apply List.ext_getElem (by rw [numBits_len, numBits_len])
  intro i h1 h2
  rw [numBits_len] at h1
  rw [numBits_get _ _ _ h1, numBits_get _ _ _ h1, decide_eq_decide]
  have e : a * 2 ^ m + r = r + 2 ^ (m - 1 - i) * (2 ^ i * a * 2) := by
    have : 2 ^ m = 2 ^ (m - 1 - i) * 2 ^ i * 2 := by rw [← Nat.pow_add, ← Nat.pow_succ]; congr 1; omega
    rw [this, Nat.add_comm]
    congr 1
    simp only [Nat.mul_assoc, Nat.mul_comm, Nat.mul_left_comm]
  rw [e, Nat.add_mul_div_left _ _ (Nat.two_pow_pos _), Nat.add_mul_mod_self_right]
theorem numBits_numOf : ∀ l : List Bool, numBits (numOf l) l.length = l
  | [] => rfl
  | x :: l => by
    have ih := numBits_numOf l
    have hl := numOf_lt l
    have e : numOf (x :: l) = x.toNat * 2 ^ l.length + numOf l := by
      have := numOf_app [x] l
      simpa [numOf] using this
    show decide (numOf (x :: l) / 2 ^ l.length % 2 = 1) :: numBits (numOf (x :: l)) l.length = x :: l
    rw [e, numBits_add, ih]
    congr 1
    rw [Nat.mul_comm, Nat.mul_add_div (Nat.two_pow_pos _), Nat.div_eq_of_lt hl]
    cases x <;> simp
def chunk (L : List Bool) (p w n : Nat) : List Nat := (List.range n).map fun i => numOf ((L.drop (p + i * w)).take w)
theorem chunk_len (L : List Bool) (p w n : Nat) : (chunk L p w n).length = n := by simp [chunk]
theorem chunk_succ (L : List Bool) (p w n : Nat) : chunk L p w (n + 1) = chunk L p w n ++ [numOf ((L.drop (p + n * w)).take w)] := by simp [chunk, List.range_succ]
theorem numOf_take_lt (L : List Bool) (w : Nat) : numOf (L.take w) < 2 ^ w := Nat.lt_of_lt_of_le (numOf_lt _) (Nat.pow_le_pow_right (by decide) (by simp; omega))
theorem chunk_lt (L : List Bool) (p w n : Nat) : ∀ x ∈ chunk L p w n, x < 2 ^ w := fun x hx => by
  obtain ⟨i, _, rfl⟩ := List.mem_map.1 hx
  exact numOf_take_lt _ _
theorem chunk_set {L : List Bool} {p w n i : Nat} (h : i < n) : (chunk L p w i ++ List.replicate (n - i) 0).set i (numOf ((L.drop (p + i * w)).take w)) = chunk L p w (i + 1) ++ List.replicate (n - (i + 1)) 0 := by
  obtain ⟨k, hk⟩ : ∃ k, n - i = k + 1 := ⟨n - i - 1, by omega⟩
  rw [hk, chunk_succ, show n - (i + 1) = k by omega, List.replicate_succ, List.set_append_right _ _ (by rw [chunk_len]; omega), chunk_len, Nat.sub_self, List.set_cons_zero, List.append_assoc]
  rfl
theorem chunk_pad_lt {L : List Bool} {p w n i : Nat} : ∀ x ∈ chunk L p w i ++ List.replicate (n - i) 0, x < 2 ^ w := fun x hx => by
  rcases List.mem_append.1 hx with h | h
  · exact chunk_lt _ _ _ _ x h
  · exact rep_lt _ _ x h
theorem chunk_pad_len {L : List Bool} {p w n i : Nat} (h : i ≤ n) : (chunk L p w i ++ List.replicate (n - i) 0).length = n := by simp [chunk_len]; omega
theorem wbits_chunk {L : List Bool} {p w : Nat} : ∀ {n : Nat}, p + n * w ≤ L.length → wbits w (chunk L p w n) = (L.drop p).take (n * w)
  | 0, _ => by simp [wbits, chunk]
  | n + 1, h => by
    rw [Nat.add_mul, Nat.one_mul] at h
    rw [chunk_succ, wbits_app, wbits_chunk (n := n) (by omega), Nat.add_mul, Nat.one_mul, List.take_add]
    congr 1
    have hlen : ((L.drop (p + n * w)).take w).length = w := by simp; omega
    have h2 := numBits_numOf ((L.drop (p + n * w)).take w)
    rw [hlen] at h2
    simp only [wbits, List.flatMap_cons, List.flatMap_nil, List.append_nil]
    rw [h2, List.drop_drop]
theorem chunk_wbits {w : Nat} {T : List Bool} : ∀ {N A : List Nat}, (∀ x ∈ N, x < 2 ^ w) → ∀ i, i < N.length → numOf (((wbits w N ++ T).drop (i * w)).take w) = N.getD i 0
  | x :: N, _, h, 0, _ => by
    have hx := h x (by simp)
    have e : wbits w (x :: N) = numBits x w ++ wbits w N := rfl
    rw [Nat.zero_mul, List.drop_zero, e, List.append_assoc, List.take_append_of_le_length (by rw [numBits_len]; omega), List.take_of_length_le (by rw [numBits_len]; omega), numOf_numBits, Nat.mod_eq_of_lt hx]
    rfl
  | x :: N, A, h, i + 1, hi => by
    have e : wbits w (x :: N) = numBits x w ++ wbits w N := rfl
    have ih := chunk_wbits (T := T) (N := N) (A := A) (fun y hy => h y (by simp [hy])) i (by simpa using hi)
    rw [e, List.append_assoc, Nat.add_mul, Nat.one_mul, Nat.add_comm, ← List.drop_drop]
    have : (numBits x w ++ (wbits w N ++ T)).drop w = wbits w N ++ T := by
      conv => lhs; arg 1; rw [← numBits_len x w]
      exact List.drop_left
    rw [this, ih]
    rfl
theorem chunk_back {w n : Nat} {N : List Nat} {T : List Bool} (hN : N.length = n) (h : ∀ x ∈ N, x < 2 ^ w) : chunk (wbits w N ++ T) 0 w n = N := by
  apply List.ext_getElem (by rw [chunk_len, hN])
  intro i h1 h2
  have := chunk_wbits (T := T) (A := []) h i h2
  simp only [chunk, List.getElem_map, List.getElem_range, Nat.zero_add]
  rw [this]
  simp [List.getD_eq_getElem?_getD, h2]
theorem packN_rep (w : Nat) : ∀ n, packN w (List.replicate n 0) = 0
  | 0 => rfl
  | n + 1 => by
    show 0 + 2 ^ w * packN w (List.replicate n 0) = 0
    rw [packN_rep w n]; simp
theorem end_div {len p w i : Nat} (hp : p + i * w ≤ len) (h : ¬ p + i * w + w ≤ len) : (len - p) / w = i := by
  rcases Nat.eq_zero_or_pos w with hw | hw
  · omega
  · apply Nat.div_eq_of_lt_le
    · omega
    · rw [Nat.succ_mul]; omega
end Go.Proofs.Ythbcfjlalmhabaa
