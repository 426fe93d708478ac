import Derived.Test.YtpkfddfkacijoaaSq
namespace Go.Proofs.Ytpkfddfkacijoaa
open Go.Eng
set_option linter.unusedSimpArgs false
set_option linter.unusedVariables false
def shC (K : List Nat) : List Cell := K.map fun k => (k, 0)
def shS (K : List Nat) : SS := (shC K, 1, false)
theorem shC_get {K : List Nat} {i : Nat} : (shC K).getD i (0, 0) = (K.getD i 0, 0) := by
  unfold shC
  simp only [List.getD_eq_getElem?_getD, List.getElem?_map]
  cases K[i]? <;> rfl
theorem shC_set {K : List Nat} {i k : Nat} : (shC K).set i (k, 0) = shC (K.set i k) := by
  unfold shC
  rw [List.map_set]
theorem shC_len {K : List Nat} : (shC K).length = K.length := by unfold shC; rw [List.length_map]
theorem rndD_zero (n : Nat) : rndD n 0 = .ret n := by
  unfold rndD
  rw [Nat.pow_zero, if_pos (Nat.mod_one n), Nat.div_one]
theorem putS_zero (k : Nat) : putS (k, 0) = (k, 0) := by
  unfold putS
  split <;> rfl
theorem fitD_ok {P : SP} {i f k : Nat} {st : SS} (h : k ≤ P.m) : fitD P i (f + 1) st (k, 0) = .ret (st.1.set i (k, 0), st.2) := by
  show (if k ≤ P.m then DT.ret (st.1.set i (putS (k, 0)), st.2) else _) = _
  rw [if_pos h, putS_zero]
theorem fuelF_succ (P : SP) (s m : Nat) : fuelF P s m = ((P.s - s) * (P.d + 2) + (P.d - m) + 1) + 1 := rfl
theorem addD_sh {P : SP} {K : List Nat} {i : Nat} (h : K.getD i 0 + 1 ≤ P.m) : addD P (shS K) i 1 = .ret (shS (K.set i (K.getD i 0 + 1))) := by
  unfold addD shS
  dsimp only
  rw [shC_get, Nat.mul_zero, rndD_zero]
  show fitD P i (fuelF P 1 0) (shC K, 1, false) (K.getD i 0 + 1, 0) = _
  rw [fuelF_succ, fitD_ok h]
  dsimp only
  rw [shC_set]
theorem mgD_sh {P : SP} {K : List Nat} (h : ∀ k ∈ K, 2 * k ≤ P.m) : ∀ (n i : Nat), i + n = K.length →
    mgD P n i (shS ((K.take i).map (2 * ·) ++ K.drop i)) (shS K) = .ret (shS (K.map (2 * ·)))
  | 0, i, hi => by
    rw [List.take_of_length_le (by omega), List.drop_of_length_le (by omega), List.append_nil]
    rfl
  | n + 1, i, hi => by
    have hlt : i < K.length := by omega
    have hd : K.drop i = K[i] :: K.drop (i + 1) := List.drop_eq_getElem_cons hlt
    have hl : ((K.take i).map (2 * ·)).length = i := by rw [List.length_map, List.length_take]; omega
    have hg : ((K.take i).map (2 * ·) ++ K.drop i).getD i 0 = K[i] := by
      rw [hd, List.getD_eq_getElem?_getD, List.getElem?_append_right (by omega), hl, Nat.sub_self]
      rfl
    have hg2 : K.getD i 0 = K[i] := by rw [List.getD_eq_getElem?_getD, List.getElem?_eq_getElem hlt]; rfl
    have hk := h K[i] (List.getElem_mem hlt)
    have hset : ((K.take i).map (2 * ·) ++ K.drop i).set i (2 * K[i]) = (K.take (i + 1)).map (2 * ·) ++ K.drop (i + 1) := by
      rw [List.set_append_right _ _ (by omega), hl, Nat.sub_self, hd, List.set_cons_zero, List.take_succ_eq_append_getElem hlt, List.map_append, List.append_assoc]
      rfl
    have ht : togD (shS ((K.take i).map (2 * ·) ++ K.drop i)) (shS K) i = .ret (2 * K[i], 0) := by
      unfold togD shS
      dsimp only
      rw [shC_get, shC_get, hg, hg2]
      dsimp only
      rw [Nat.max_self, Nat.mul_zero, rndD_zero]
      show DT.ret (wth (K[i], 0) 1 + wth (K[i], 0) 1, 0) = _
      have : wth (K[i], 0) 1 = K[i] := by
        show K[i] * 2 ^ (1 * 0) = _
        rw [Nat.mul_zero, Nat.pow_zero, Nat.mul_one]
      rw [this, Nat.two_mul]
    have hf : fitD P i (fuelF P 1 0) (shS ((K.take i).map (2 * ·) ++ K.drop i)) (2 * K[i], 0) = .ret (shS ((K.take (i + 1)).map (2 * ·) ++ K.drop (i + 1))) := by
      rw [fuelF_succ, fitD_ok hk]
      unfold shS
      dsimp only
      rw [shC_set, hset]
    have ih := mgD_sh h n (i + 1) (by omega)
    show ((lvD P (1 - 1) (shS K)).bind fun y1 => (togD (shS ((K.take i).map (2 * ·) ++ K.drop i)) y1 i).bind fun c => (fitD P i (fuelF P 1 c.2) (shS ((K.take i).map (2 * ·) ++ K.drop i)) c).bind fun x1 => mgD P n (i + 1) x1 y1) = _
    show ((togD (shS ((K.take i).map (2 * ·) ++ K.drop i)) (shS K) i).bind fun c => (fitD P i (fuelF P 1 c.2) (shS ((K.take i).map (2 * ·) ++ K.drop i)) c).bind fun x1 => mgD P n (i + 1) x1 (shS K)) = _
    rw [ht]
    show ((fitD P i (fuelF P 1 0) (shS ((K.take i).map (2 * ·) ++ K.drop i)) (2 * K[i], 0)).bind fun x1 => mgD P n (i + 1) x1 (shS K)) = _
    rw [hf]
    exact ih
theorem mergeD_sh {P : SP} {K : List Nat} (h : ∀ k ∈ K, 2 * k ≤ P.m) : mergeD P (shS K) (shS K) = .ret (shS (K.map (2 * ·))) := by
  have := mgD_sh h K.length 0 (by omega)
  show mgD P (shC K).length 0 (shS K) (shS K) = _
  rw [shC_len]
  simpa using this
theorem shS_ok {P : SP} {K : List Nat} (hs : 1 ≤ P.s) (h : ∀ k ∈ K, k ≤ P.m) : SOk P (shS K) := by
  refine ⟨fun c hc => ?_, Nat.le_refl _, hs, fun h => by cases h⟩
  obtain ⟨k, hk, rfl⟩ := List.mem_map.1 hc
  exact ⟨h k hk, Nat.zero_le _, fun _ => rfl⟩
end Go.Proofs.Ytpkfddfkacijoaa
