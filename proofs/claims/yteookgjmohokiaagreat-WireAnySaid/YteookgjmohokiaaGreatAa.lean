import Derived.Test.YteookgjmohokiaaGreatSa
import Derived.Test.YteookgjmohokiaaGreatD2
namespace Go.Proofs.YteookgjmohokiaaGreat
set_option linter.unusedSimpArgs false
set_option linter.unusedVariables false
def sumN : Nat → (Nat → Rat) → Rat
  | 0, _ => 0
  | n + 1, φ => sumN n φ + φ n
theorem sumN_congr {φ ψ : Nat → Rat} : ∀ {n : Nat}, (∀ x, x < n → φ x = ψ x) → sumN n φ = sumN n ψ
  | 0, _ => rfl
  | n + 1, h => by
    unfold sumN
    rw [sumN_congr (n := n) (fun x hx => h x (by omega)), h n (by omega)]
theorem sumN_add (m : Nat) (φ : Nat → Rat) : ∀ n, sumN (m + n) φ = sumN m φ + sumN n (fun x => φ (m + x))
  | 0 => by unfold sumN; grind
  | n + 1 => by
    have := sumN_add m φ n
    show sumN (m + n) φ + φ (m + n) = sumN m φ + (sumN n (fun x => φ (m + x)) + φ (m + n))
    rw [this]; grind
theorem vn_succ (n : Nat) : vn (n + 1) = vn n + 1 := by unfold vn; simp
theorem vn_zero : vn 0 = 0 := rfl
theorem vn_ne {n : Nat} (h : 0 < n) : vn n ≠ 0 := by
  unfold vn
  intro e
  have : (((n : Nat) : Int) : Rat) = ((0 : Int) : Rat) := e
  rw [Rat.intCast_inj] at this
  omega
theorem vn_nonneg (n : Nat) : 0 ≤ vn n := by
  have : ((0 : Int) : Rat) ≤ (((n : Nat) : Int) : Rat) := Rat.intCast_le_intCast.2 (by omega)
  exact this
theorem sumN_const (c : Rat) : ∀ n, sumN n (fun _ => c) = c * vn n
  | 0 => by unfold sumN; rw [vn_zero]; grind
  | n + 1 => by
    unfold sumN
    rw [sumN_const c n, vn_succ]; grind
theorem sumN_bounds {φ : Nat → Rat} {B : Rat} : ∀ {n : Nat}, (∀ x, x < n → 0 ≤ φ x ∧ φ x ≤ B) → 0 ≤ sumN n φ ∧ sumN n φ ≤ B * vn n
  | 0, _ => by unfold sumN; rw [vn_zero]; constructor <;> grind
  | n + 1, h => by
    unfold sumN
    obtain ⟨a, b⟩ := sumN_bounds (n := n) (fun x hx => h x (by omega))
    obtain ⟨c, d⟩ := h n (by omega)
    rw [vn_succ]
    constructor <;> grind
variable {α : Type}
def coinsD : Nat → Nat → (Nat → DT α) → DT α
  | 0, a, k => k a
  | w + 1, a, k => .ask (coinsD w (2 * a) k) (coinsD w (2 * a + 1) k)
def belQ (n w : Nat) : Nat → (Nat → DT Rat) → DT Rat
  | 0, k => .ret (sumN n (fun a => (k a).mean id) / vn n)
  | f + 1, k => coinsD w 0 fun x => if x < n then k x else belQ n w f k
theorem mean_coins {v : α → Rat} {k : Nat → DT α} : ∀ {w a : Nat}, (coinsD w a k).mean v * vn (2 ^ w) = sumN (2 ^ w) (fun x => (k (a * 2 ^ w + x)).mean v)
  | 0, a => by
    show (k a).mean v * vn 1 = 0 + (k (a * 1 + 0)).mean v
    rw [show vn 1 = 1 from rfl, Nat.mul_one, Nat.add_zero]
    grind
  | w + 1, a => by
    have h1 := mean_coins (v := v) (k := k) (w := w) (a := 2 * a)
    have h2 := mean_coins (v := v) (k := k) (w := w) (a := 2 * a + 1)
    have e : 2 ^ (w + 1) = 2 ^ w + 2 ^ w := by rw [Nat.pow_succ]; omega
    show ((coinsD w (2 * a) k).mean v + (coinsD w (2 * a + 1) k).mean v) / 2 * vn (2 ^ (w + 1)) = _
    rw [e, sumN_add, vn_add]
    have e1 : sumN (2 ^ w) (fun x => (k (a * (2 ^ w + 2 ^ w) + x)).mean v) = (coinsD w (2 * a) k).mean v * vn (2 ^ w) := by
      rw [h1]
      refine sumN_congr fun x _ => ?_
      rw [show a * (2 ^ w + 2 ^ w) = 2 * a * 2 ^ w by rw [Nat.mul_add, Nat.mul_assoc, Nat.two_mul]]
    have e2 : sumN (2 ^ w) (fun x => (k (a * (2 ^ w + 2 ^ w) + (2 ^ w + x))).mean v) = (coinsD w (2 * a + 1) k).mean v * vn (2 ^ w) := by
      rw [h2]
      refine sumN_congr fun x _ => ?_
      rw [show a * (2 ^ w + 2 ^ w) + (2 ^ w + x) = (2 * a + 1) * 2 ^ w + x by rw [Nat.mul_add, Nat.add_mul, Nat.mul_assoc, Nat.two_mul, Nat.one_mul]; omega]
    rw [e1, e2]
    grind
theorem mean_belQ {n w : Nat} (hn : 0 < n) (hw : n ≤ 2 ^ w) (k : Nat → DT Rat) : ∀ f, (belQ n w f k).mean id * vn n = sumN n (fun a => (k a).mean id)
  | 0 => by
    have := vn_ne hn
    show sumN n (fun a => (k a).mean id) / vn n * vn n = _
    generalize sumN n (fun a => (k a).mean id) = s
    grind
  | f + 1 => by
    have ih := mean_belQ hn hw k f
    have h := mean_coins (v := id) (k := fun x => if x < n then k x else belQ n w f k) (w := w) (a := 0)
    have h0 : 0 < 2 ^ w := by omega
    obtain ⟨d, hd⟩ : ∃ d, 2 ^ w = n + d := ⟨2 ^ w - n, by omega⟩
    have hne := vn_ne h0
    show (coinsD w 0 (fun x => if x < n then k x else belQ n w f k)).mean id * vn n = _
    rw [hd, sumN_add] at h
    rw [hd] at hne
    have e1 : sumN n (fun x => (if 0 * (n + d) + x < n then k (0 * (n + d) + x) else belQ n w f k).mean id) = sumN n (fun a => (k a).mean id) := by
      refine sumN_congr fun x hx => ?_
      rw [Nat.zero_mul, Nat.zero_add, if_pos hx]
    have e2 : sumN d (fun x => (if 0 * (n + d) + (n + x) < n then k (0 * (n + d) + (n + x)) else belQ n w f k).mean id) = (belQ n w f k).mean id * vn d := by
      rw [← sumN_const]
      refine sumN_congr fun x hx => ?_
      rw [if_neg (by omega)]
    rw [e1, e2] at h
    generalize (coinsD w 0 (fun x => if x < n then k x else belQ n w f k)).mean id = M at *
    generalize (belQ n w f k).mean id = M' at *
    generalize sumN n (fun a => (k a).mean id) = S at *
    rw [vn_add] at h hne
    generalize vn n = a at *
    generalize vn d = b at *
    have h3 : M * a * (a + b) = S * (a + b) := by grind
    grind
theorem all_coins {P : α → Prop} {k : Nat → DT α} (h : ∀ x, (k x).all P) : ∀ {w a : Nat}, (coinsD w a k).all P
  | 0, a => h a
  | w + 1, a => ⟨all_coins h, all_coins h⟩
def inB (B v : Rat) : Prop := 0 ≤ v ∧ v ≤ B
theorem mean_in {B : Rat} : ∀ {t : DT Rat}, t.all (inB B) → inB B (t.mean id)
  | .ret a, h => h
  | .ask f g, h => by
    obtain ⟨a, b⟩ := mean_in h.1
    obtain ⟨c, d⟩ := mean_in h.2
    show 0 ≤ (f.mean id + g.mean id) / 2 ∧ (f.mean id + g.mean id) / 2 ≤ B
    constructor <;> grind
theorem all_belQ {n w : Nat} {B : Rat} (hn : 0 < n) {k : Nat → DT Rat} (h : ∀ x, (k x).all (inB B)) : ∀ {f : Nat}, (belQ n w f k).all (inB B)
  | 0 => by
    obtain ⟨a, b⟩ := sumN_bounds (n := n) (fun x _ => mean_in (h x))
    have hp : 0 < vn n := by
      have := vn_nonneg n
      have := vn_ne hn
      grind
    show 0 ≤ sumN n (fun a => (k a).mean id) / vn n ∧ sumN n (fun a => (k a).mean id) / vn n ≤ B
    generalize sumN n (fun a => (k a).mean id) = s at *
    refine ⟨?_, ?_⟩
    · rw [Rat.div_def]
      exact Rat.mul_nonneg a (Rat.le_of_lt (Rat.inv_pos.2 hp))
    · have hv : (vn n)⁻¹ * vn n = 1 := Rat.inv_mul_cancel _ (Rat.ne_of_gt hp)
      have hi : 0 < (vn n)⁻¹ := Rat.inv_pos.2 hp
      have h3 := Rat.mul_le_mul_of_nonneg_right b (Rat.le_of_lt hi)
      rw [Rat.div_def]
      rw [Rat.mul_assoc, Rat.mul_comm (vn n), hv, Rat.mul_one] at h3
      exact h3
  | f + 1 => all_coins fun x => by
    split
    · exact h x
    · exact all_belQ hn h
def stp (k a : Nat) (s : Nat × Nat) : Nat × Nat := if a = 0 then (k, 1) else if s.1 = k then (s.1, s.2 + 1) else s
def playQ (fin : Nat × Nat → Rat) : List Nat → Nat → Nat × Nat → DT Rat
  | [], _, s => .ret (fin s)
  | k :: ks, N, s => belQ (N + 1) (bl N) 40 fun a => playQ fin ks (N + 1) (stp k a s)
def sumS (X : List (Nat × Nat)) (φ : Nat × Nat → Rat) : Rat := (X.map φ).sum
theorem sumS_cons (x : Nat × Nat) (X : List (Nat × Nat)) (φ : Nat × Nat → Rat) : sumS (x :: X) φ = φ x + sumS X φ := by
  unfold sumS
  rw [List.map_cons, List.sum_cons]
def bump (k : Nat) (s : Nat × Nat) : Nat × Nat := if s.1 = k then (s.1, s.2 + 1) else s
def extS : List (Nat × Nat) → List Nat → List (Nat × Nat)
  | X, [] => X
  | X, k :: ks => extS ((k, 1) :: X.map (bump k)) ks
theorem sumS_map (X : List (Nat × Nat)) (f : Nat × Nat → Nat × Nat) (φ : Nat × Nat → Rat) : sumS (X.map f) φ = sumS X (fun s => φ (f s)) := by
  unfold sumS
  rw [List.map_map]
  rfl
theorem step_playQ {fin : Nat × Nat → Rat} {k : Nat} {ks : List Nat} {N : Nat} {s : Nat × Nat} : (playQ fin (k :: ks) N s).mean id * vn (N + 1) = (playQ fin ks (N + 1) (k, 1)).mean id + vn N * (playQ fin ks (N + 1) (bump k s)).mean id := by
  have h := mean_belQ (n := N + 1) (w := bl N) (Nat.succ_pos N) (bl_lt N) (fun a => playQ fin ks (N + 1) (stp k a s)) 40
  show (belQ (N + 1) (bl N) 40 fun a => playQ fin ks (N + 1) (stp k a s)).mean id * vn (N + 1) = _
  rw [h, Nat.add_comm N 1, sumN_add]
  have e : sumN N (fun x => (playQ fin ks (1 + N) (stp k (1 + x) s)).mean id) = (playQ fin ks (1 + N) (bump k s)).mean id * vn N := by
    rw [← sumN_const]
    refine sumN_congr fun x _ => ?_
    unfold stp bump
    rw [if_neg (by omega)]
  rw [e]
  show 0 + (playQ fin ks (1 + N) (k, 1)).mean id + _ = _
  grind
def cntK (ks : List Nat) (κ : Nat) : Nat := ks.count κ
theorem sumN_upd {φ : Nat → Rat} {k : Nat} {c : Rat} : ∀ {m : Nat}, k < m → sumN m (fun x => if x = k then φ x + c else φ x) = sumN m φ + c
  | 0, h => by omega
  | m + 1, h => by
    unfold sumN
    by_cases hm : k = m
    · subst hm
      have e := sumN_congr (n := k) (φ := fun x => if x = k then φ x + c else φ x) (ψ := φ) (fun x hx => if_neg (by omega))
      simp only [if_true]
      rw [e]
      grind
    · have hm2 : ¬ m = k := fun e => hm e.symm
      simp only [if_neg hm2]
      rw [sumN_upd (by omega)]
      grind
def InvS (m : Nat) (X : List (Nat × Nat)) (c : Nat → Nat) : Prop := ∀ ψ : Nat → Nat → Rat, sumS X (fun s => ψ s.1 s.2) = sumN m (fun κ => sumN (c κ) (fun r => ψ κ (r + 1)))
def sumQr : DT Rat → Nat → Rat
  | .ret a, f => a * vn (2 ^ f)
  | .ask _ _, 0 => 0
  | .ask g h, f + 1 => sumQr g f + sumQr h f
def opQr : DT Rat → Nat → Nat
  | .ret _, _ => 0
  | .ask _ _, 0 => 1
  | .ask g h, f + 1 => opQr g f + opQr h f
end Go.Proofs.YteookgjmohokiaaGreat
