import Derived.Test.YtpkfddfkacijoaaSa
import Derived.Test.YtpkfddfkacijoaaTb
namespace Go.Proofs.Ytpkfddfkacijoaa
set_option linter.unusedSimpArgs false
set_option linter.unusedVariables false
def sumN : Nat → (Nat → Rat) → Rat
  | 0, _ => 0
  | n + 1, φ => sumN n φ + φ n
theorem sumN_congr {φ ψ : Nat → Rat} : ∀ {n : Nat}, (∀ x, x < n → φ x = ψ x) → sumN n φ = sumN n ψ
  | 0, _ => rfl
  | n + 1, h => by
    unfold sumN
    rw [sumN_congr (n := n) (fun x hx => h x (by omega)), h n (by omega)]
theorem sumN_add (m : Nat) (φ : Nat → Rat) : ∀ n, sumN (m + n) φ = sumN m φ + sumN n (fun x => φ (m + x))
  | 0 => by unfold sumN; grind
  | n + 1 => by
    have := sumN_add m φ n
    show sumN (m + n) φ + φ (m + n) = sumN m φ + (sumN n (fun x => φ (m + x)) + φ (m + n))
    rw [this]; grind
theorem vn_succ (n : Nat) : vn (n + 1) = vn n + 1 := by unfold vn; simp
theorem vn_zero : vn 0 = 0 := rfl
theorem vn_ne {n : Nat} (h : 0 < n) : vn n ≠ 0 := by
  unfold vn
  intro e
  have : (((n : Nat) : Int) : Rat) = ((0 : Int) : Rat) := e
  rw [Rat.intCast_inj] at this
  omega
theorem vn_nonneg (n : Nat) : 0 ≤ vn n := by
  have : ((0 : Int) : Rat) ≤ (((n : Nat) : Int) : Rat) := Rat.intCast_le_intCast.2 (by omega)
  exact this
theorem sumN_const (c : Rat) : ∀ n, sumN n (fun _ => c) = c * vn n
  | 0 => by unfold sumN; rw [vn_zero]; grind
  | n + 1 => by
    unfold sumN
    rw [sumN_const c n, vn_succ]; grind
theorem sumN_bounds {φ : Nat → Rat} {B : Rat} : ∀ {n : Nat}, (∀ x, x < n → 0 ≤ φ x ∧ φ x ≤ B) → 0 ≤ sumN n φ ∧ sumN n φ ≤ B * vn n
  | 0, _ => by unfold sumN; rw [vn_zero]; constructor <;> grind
  | n + 1, h => by
    unfold sumN
    obtain ⟨a, b⟩ := sumN_bounds (n := n) (fun x hx => h x (by omega))
    obtain ⟨c, d⟩ := h n (by omega)
    rw [vn_succ]
    constructor <;> grind
variable {α : Type}
def coinsD : Nat → Nat → (Nat → DT α) → DT α
  | 0, a, k => k a
  | w + 1, a, k => .ask (coinsD w (2 * a) k) (coinsD w (2 * a + 1) k)
def belQ (n w : Nat) : Nat → (Nat → DT Rat) → DT Rat
  | 0, k => .ret (sumN n (fun a => (k a).mean id) / vn n)
  | f + 1, k => coinsD w 0 fun x => if x < n then k x else belQ n w f k
theorem mean_coins {v : α → Rat} {k : Nat → DT α} : ∀ {w a : Nat}, (coinsD w a k).mean v * vn (2 ^ w) = sumN (2 ^ w) (fun x => (k (a * 2 ^ w + x)).mean v)
  | 0, a => by
    show (k a).mean v * vn 1 = 0 + (k (a * 1 + 0)).mean v
    rw [show vn 1 = 1 from rfl, Nat.mul_one, Nat.add_zero]
    grind
  | w + 1, a => by
    have h1 := mean_coins (v := v) (k := k) (w := w) (a := 2 * a)
    have h2 := mean_coins (v := v) (k := k) (w := w) (a := 2 * a + 1)
    have e : 2 ^ (w + 1) = 2 ^ w + 2 ^ w := by rw [Nat.pow_succ]; omega
    show ((coinsD w (2 * a) k).mean v + (coinsD w (2 * a + 1) k).mean v) / 2 * vn (2 ^ (w + 1)) = _
    rw [e, sumN_add, vn_add]
    have e1 : sumN (2 ^ w) (fun x => (k (a * (2 ^ w + 2 ^ w) + x)).mean v) = (coinsD w (2 * a) k).mean v * vn (2 ^ w) := by
      rw [h1]
      refine sumN_congr fun x _ => ?_
      rw [show a * (2 ^ w + 2 ^ w) = 2 * a * 2 ^ w by rw [Nat.mul_add, Nat.mul_assoc, Nat.two_mul]]
    have e2 : sumN (2 ^ w) (fun x => (k (a * (2 ^ w + 2 ^ w) + (2 ^ w + x))).mean v) = (coinsD w (2 * a + 1) k).mean v * vn (2 ^ w) := by
      rw [h2]
      refine sumN_congr fun x _ => ?_
      rw [show a * (2 ^ w + 2 ^ w) + (2 ^ w + x) = (2 * a + 1) * 2 ^ w + x by rw [Nat.mul_add, Nat.add_mul, Nat.mul_assoc, Nat.two_mul, Nat.one_mul]; omega]
    rw [e1, e2]
    grind
theorem mean_belQ {n w : Nat} (hn : 0 < n) (hw : n ≤ 2 ^ w) (k : Nat → DT Rat) : ∀ f, (belQ n w f k).mean id * vn n = sumN n (fun a => (k a).mean id)
  | 0 => by
    have := vn_ne hn
    show sumN n (fun a => (k a).mean id) / vn n * vn n = _
    generalize sumN n (fun a => (k a).mean id) = s
    grind
  | f + 1 => by
    have ih := mean_belQ hn hw k f
    have h := mean_coins (v := id) (k := fun x => if x < n then k x else belQ n w f k) (w := w) (a := 0)
    have h0 : 0 < 2 ^ w := by omega
    obtain ⟨d, hd⟩ : ∃ d, 2 ^ w = n + d := ⟨2 ^ w - n, by omega⟩
    have hne := vn_ne h0
    show (coinsD w 0 (fun x => if x < n then k x else belQ n w f k)).mean id * vn n = _
    rw [hd, sumN_add] at h
    rw [hd] at hne
    have e1 : sumN n (fun x => (if 0 * (n + d) + x < n then k (0 * (n + d) + x) else belQ n w f k).mean id) = sumN n (fun a => (k a).mean id) := by
      refine sumN_congr fun x hx => ?_
      rw [Nat.zero_mul, Nat.zero_add, if_pos hx]
    have e2 : sumN d (fun x => (if 0 * (n + d) + (n + x) < n then k (0 * (n + d) + (n + x)) else belQ n w f k).mean id) = (belQ n w f k).mean id * vn d := by
      rw [← sumN_const]
      refine sumN_congr fun x hx => ?_
      rw [if_neg (by omega)]
    rw [e1, e2] at h
    generalize (coinsD w 0 (fun x => if x < n then k x else belQ n w f k)).mean id = M at *
    generalize (belQ n w f k).mean id = M' at *
    generalize sumN n (fun a => (k a).mean id) = S at *
    rw [vn_add] at h hne
    generalize vn n = a at *
    generalize vn d = b at *
    have h3 : M * a * (a + b) = S * (a + b) := by grind
    grind
theorem all_coins {P : α → Prop} {k : Nat → DT α} (h : ∀ x, (k x).all P) : ∀ {w a : Nat}, (coinsD w a k).all P
  | 0, a => h a
  | w + 1, a => ⟨all_coins h, all_coins h⟩
def inB (B v : Rat) : Prop := 0 ≤ v ∧ v ≤ B
theorem mean_in {B : Rat} : ∀ {t : DT Rat}, t.all (inB B) → inB B (t.mean id)
  | .ret a, h => h
  | .ask f g, h => by
    obtain ⟨a, b⟩ := mean_in h.1
    obtain ⟨c, d⟩ := mean_in h.2
    show 0 ≤ (f.mean id + g.mean id) / 2 ∧ (f.mean id + g.mean id) / 2 ≤ B
    constructor <;> grind
theorem all_belQ {n w : Nat} {B : Rat} (hn : 0 < n) {k : Nat → DT Rat} (h : ∀ x, (k x).all (inB B)) : ∀ {f : Nat}, (belQ n w f k).all (inB B)
  | 0 => by
    obtain ⟨a, b⟩ := sumN_bounds (n := n) (fun x _ => mean_in (h x))
    have hp : 0 < vn n := by
      have := vn_nonneg n
      have := vn_ne hn
      grind
    show 0 ≤ sumN n (fun a => (k a).mean id) / vn n ∧ sumN n (fun a => (k a).mean id) / vn n ≤ B
    generalize sumN n (fun a => (k a).mean id) = s at *
    refine ⟨?_, ?_⟩
    · rw [Rat.div_def]
      exact Rat.mul_nonneg a (Rat.le_of_lt (Rat.inv_pos.2 hp))
    · have hv : (vn n)⁻¹ * vn n = 1 := Rat.inv_mul_cancel _ (Rat.ne_of_gt hp)
      have hi : 0 < (vn n)⁻¹ := Rat.inv_pos.2 hp
      have h3 := Rat.mul_le_mul_of_nonneg_right b (Rat.le_of_lt hi)
      rw [Rat.div_def]
      rw [Rat.mul_assoc, Rat.mul_comm (vn n), hv, Rat.mul_one] at h3
      exact h3
  | f + 1 => all_coins fun x => by
    split
    · exact h x
    · exact all_belQ hn h
theorem run_coins {L : List Bool} {k : Nat → DT α} : ∀ {w a p : Nat}, (coinsD w a k).run L p = if p + w ≤ L.length ∨ w = 0 then (k (a * 2 ^ w + numOf ((L.drop p).take w))).run L (p + w) else none
  | 0, a, p => by
    rw [if_pos (.inr rfl)]
    show (k a).run L p = (k (a * 1 + numOf [])).run L p
    rw [Nat.mul_one]
    rfl
  | w + 1, a, p => by
    show (DT.ask (coinsD w (2 * a) k) (coinsD w (2 * a + 1) k)).run L p = _
    rw [run_ask]
    by_cases hp : p < L.length
    · rw [if_pos hp]
      have e : L.drop p = L.getD p false :: L.drop (p + 1) := by
        rw [List.drop_eq_getElem_cons hp]
        congr 1
        simp [List.getD_eq_getElem?_getD, hp]
      have key : ∀ b : Bool, L.getD p false = b → (coinsD w (2 * a + b.toNat) k).run L (p + 1) = if p + (w + 1) ≤ L.length ∨ w + 1 = 0 then (k (a * 2 ^ (w + 1) + numOf ((L.drop p).take (w + 1)))).run L (p + (w + 1)) else none := by
        intro b hb
        rw [run_coins, e, hb]
        have e3 : (p + 1 + w ≤ L.length ∨ w = 0) ↔ (p + (w + 1) ≤ L.length ∨ w + 1 = 0) := by omega
        by_cases h2 : p + (w + 1) ≤ L.length ∨ w + 1 = 0
        · rw [if_pos h2, if_pos (e3.2 h2)]
          have h4 : ((L.drop (p + 1)).take w).length = w := by simp; omega
          have h5 := numOf_app [b] ((L.drop (p + 1)).take w)
          rw [h4] at h5
          have e4 : (b :: L.drop (p + 1)).take (w + 1) = [b] ++ (L.drop (p + 1)).take w := rfl
          rw [e4, h5, show p + 1 + w = p + (w + 1) by omega, show numOf [b] = b.toNat by simp [numOf], Nat.pow_succ]
          congr 2
          rw [Nat.add_mul, Nat.mul_comm 2 a, Nat.mul_assoc, Nat.mul_comm (2 ^ w) 2]
          omega
        · rw [if_neg h2, if_neg (fun h => h2 (e3.1 h))]
      cases hb : L.getD p false with
      | true => exact key true hb
      | false => exact key false hb
    · rw [if_neg hp, if_neg (by omega)]
theorem run_belQ {L : List Bool} {n w : Nat} {k : Nat → DT Rat} (hw : 0 < w ∨ n = 1) : ∀ {f p : Nat}, p ≤ L.length → L.length + 1 - p ≤ f → (belQ n w f k).run L p = if (belowR L n w f p).2.1 = 0 then (k (belowR L n w f p).1).run L (belowR L n w f p).2.2.1 else none := by
  intro f
  induction f with
  | zero => intro p hp h; omega
  | succ f ih =>
    intro p hp h
    show (coinsD w 0 (fun x => if x < n then k x else belQ n w f k)).run L p = _
    rw [run_coins]
    unfold belowR
    by_cases h1 : p + w ≤ L.length
    · rw [if_pos (.inl h1), if_pos h1, Nat.zero_mul, Nat.zero_add]
      by_cases h2 : numOf ((L.drop p).take w) < n
      · simp only [if_pos h2]
        rfl
      · simp only [if_neg h2]
        have h3 : 0 < w := by
          rcases hw with hw | hw
          · exact hw
          · rcases Nat.eq_zero_or_pos w with h | h
            · subst h; exact absurd (show numOf ((L.drop p).take 0) < n by rw [hw]; exact Nat.one_pos) h2
            · exact h
        exact ih (by omega) (by omega)
    · rw [if_neg (by omega), if_neg h1]
      rfl
theorem run_bel {L : List Bool} {n p f : Nat} {k : Nat → DT Rat} (hn : 0 < n) (hp : p ≤ L.length) (hf : L.length + 1 ≤ f) : (belQ n (bl (n - 1)) f k).run L p = if (belowX L n p).2.1 = 0 then (k (belowX L n p).1).run L (belowX L n p).2.2.1 else none := by
  unfold belowX
  by_cases h1 : n = 1
  · subst h1
    obtain ⟨g, rfl⟩ : ∃ g, f = g + 1 := ⟨f - 1, by omega⟩
    obtain ⟨e, he⟩ : ∃ e, L.length + 1 - p = e + 1 := ⟨L.length - p, by omega⟩
    rw [run_belQ (.inr rfl) hp (by omega), he]
    have e1 : ∀ j, belowR L 1 (bl (1 - 1)) (j + 1) p = (0, 0, p, false) := fun j => by
      unfold belowR
      rw [show bl (1 - 1) = 0 from rfl, if_pos (show p + 0 ≤ L.length from hp), if_pos (show numOf ((L.drop p).take 0) < 1 from Nat.one_pos)]
      rfl
    rw [e1, e1]
  · have hb : 0 < bl (n - 1) := bl_pos (by omega)
    rw [run_belQ (.inl hb) hp (by omega), belowR_fuel hb f p (by omega)]
def stp (k a : Nat) (s : Nat × Nat) : Nat × Nat := if a = 0 then (k, 1) else if s.1 = k then (s.1, s.2 + 1) else s
def playQ (fin : Nat × Nat → Rat) : List Nat → Nat → Nat × Nat → DT Rat
  | [], _, s => .ret (fin s)
  | k :: ks, N, s => belQ (N + 1) (bl N) 40 fun a => playQ fin ks (N + 1) (stp k a s)
theorem all_playQ {fin : Nat × Nat → Rat} {B : Rat} : ∀ {ks : List Nat} {N : Nat} {s : Nat × Nat}, s.2 ≤ N → (∀ s, s.2 ≤ N + ks.length → inB B (fin s)) → (playQ fin ks N s).all (inB B)
  | [], N, s, hs, h => h s hs
  | k :: ks, N, s, hs, h => all_belQ (Nat.succ_pos N) fun a => all_playQ (ks := ks) (N := N + 1) (by
      unfold stp
      split
      · show 1 ≤ N + 1; omega
      · split
        · show s.2 + 1 ≤ N + 1; omega
        · omega) (fun s hs => h s (by simp only [List.length_cons]; omega))
def sumS (X : List (Nat × Nat)) (φ : Nat × Nat → Rat) : Rat := (X.map φ).sum
theorem sumS_cons (x : Nat × Nat) (X : List (Nat × Nat)) (φ : Nat × Nat → Rat) : sumS (x :: X) φ = φ x + sumS X φ := by
  unfold sumS
  rw [List.map_cons, List.sum_cons]
theorem sumS_mul {X : List (Nat × Nat)} {φ ψ : Nat × Nat → Rat} {c : Rat} (h : ∀ s ∈ X, φ s = ψ s * c) : sumS X φ = sumS X ψ * c := by
  induction X with
  | nil => show (0 : Rat) = 0 * c; grind
  | cons x X ih =>
    rw [sumS_cons, sumS_cons, ih (fun s hs => h s (by simp [hs])), h x (by simp)]
    grind
def bump (k : Nat) (s : Nat × Nat) : Nat × Nat := if s.1 = k then (s.1, s.2 + 1) else s
def extS : List (Nat × Nat) → List Nat → List (Nat × Nat)
  | X, [] => X
  | X, k :: ks => extS ((k, 1) :: X.map (bump k)) ks
theorem sumS_map (X : List (Nat × Nat)) (f : Nat × Nat → Nat × Nat) (φ : Nat × Nat → Rat) : sumS (X.map f) φ = sumS X (fun s => φ (f s)) := by
  unfold sumS
  rw [List.map_map]
  rfl
theorem step_playQ {fin : Nat × Nat → Rat} {k : Nat} {ks : List Nat} {N : Nat} {s : Nat × Nat} : (playQ fin (k :: ks) N s).mean id * vn (N + 1) = (playQ fin ks (N + 1) (k, 1)).mean id + vn N * (playQ fin ks (N + 1) (bump k s)).mean id := by
  have h := mean_belQ (n := N + 1) (w := bl N) (Nat.succ_pos N) (bl_lt N) (fun a => playQ fin ks (N + 1) (stp k a s)) 40
  show (belQ (N + 1) (bl N) 40 fun a => playQ fin ks (N + 1) (stp k a s)).mean id * vn (N + 1) = _
  rw [h, Nat.add_comm N 1, sumN_add]
  have e : sumN N (fun x => (playQ fin ks (1 + N) (stp k (1 + x) s)).mean id) = (playQ fin ks (1 + N) (bump k s)).mean id * vn N := by
    rw [← sumN_const]
    refine sumN_congr fun x _ => ?_
    unfold stp bump
    rw [if_neg (by omega)]
  rw [e]
  show 0 + (playQ fin ks (1 + N) (k, 1)).mean id + _ = _
  grind
theorem sum_playQ {fin : Nat × Nat → Rat} : ∀ (ks : List Nat) (X : List (Nat × Nat)), 0 < X.length → sumS X (fun s => (playQ fin ks X.length s).mean id) * vn (X.length + ks.length) = vn X.length * sumS (extS X ks) fin
  | [], X, h => by
    show sumS X (fun s => fin s) * vn (X.length + 0) = vn X.length * sumS X fin
    rw [Nat.add_zero]
    grind
  | k :: ks, X, h => by
    have ih := sum_playQ (fin := fin) ks ((k, 1) :: X.map (bump k)) (Nat.succ_pos _)
    rw [sumS_cons, sumS_map, List.length_cons, List.length_map] at ih
    have hne := vn_ne (Nat.succ_pos X.length)
    have e : sumS X (fun s => (playQ fin (k :: ks) X.length s).mean id) * vn (X.length + 1) = vn X.length * ((playQ fin ks (X.length + 1) (k, 1)).mean id + sumS X (fun s => (playQ fin ks (X.length + 1) (bump k s)).mean id)) := by
      have e1 : ∀ (Y : List (Nat × Nat)), sumS Y (fun s => (playQ fin (k :: ks) X.length s).mean id) * vn (X.length + 1) = vn Y.length * (playQ fin ks (X.length + 1) (k, 1)).mean id + vn X.length * sumS Y (fun s => (playQ fin ks (X.length + 1) (bump k s)).mean id) := by
        intro Y
        induction Y with
        | nil =>
          show (0 : Rat) * vn (X.length + 1) = vn 0 * (playQ fin ks (X.length + 1) (k, 1)).mean id + vn X.length * 0
          rw [vn_zero]; grind
        | cons y Y ihY =>
          have := step_playQ (fin := fin) (k := k) (ks := ks) (N := X.length) (s := y)
          rw [sumS_cons, sumS_cons, List.length_cons, vn_succ Y.length]
          generalize (playQ fin (k :: ks) X.length y).mean id = a at *
          generalize (playQ fin ks (X.length + 1) (bump k y)).mean id = b at *
          generalize (playQ fin ks (X.length + 1) (k, 1)).mean id = c at *
          generalize sumS Y (fun s => (playQ fin (k :: ks) X.length s).mean id) = d at *
          generalize sumS Y (fun s => (playQ fin ks (X.length + 1) (bump k s)).mean id) = f at *
          grind
      rw [e1 X]
      grind
    show _ = vn X.length * sumS (extS ((k, 1) :: X.map (bump k)) ks) fin
    generalize sumS (extS ((k, 1) :: X.map (bump k)) ks) fin = F at *
    rw [List.length_cons, show X.length + (ks.length + 1) = X.length + 1 + ks.length by omega]
    generalize (playQ fin ks (X.length + 1) (k, 1)).mean id + sumS X (fun s => (playQ fin ks (X.length + 1) (bump k s)).mean id) = G at *
    generalize sumS X (fun s => (playQ fin (k :: ks) X.length s).mean id) = H at *
    generalize vn (X.length + 1 + ks.length) = a at *
    generalize vn (X.length + 1) = b at *
    generalize vn X.length = c at *
    have h3 : H * a * b = c * F * b := by grind
    grind
theorem mean_playQ {fin : Nat × Nat → Rat} {k : Nat} {ks : List Nat} {s : Nat × Nat} : (playQ fin (k :: ks) 0 s).mean id * vn (ks.length + 1) = sumS (extS [] (k :: ks)) fin := by
  have h1 := step_playQ (fin := fin) (k := k) (ks := ks) (N := 0) (s := s)
  have h2 := sum_playQ (fin := fin) ks [(k, 1)] Nat.one_pos
  rw [sumS_cons] at h2
  rw [vn_zero, show vn (0 + 1) = 1 from rfl] at h1
  show _ = sumS (extS [(k, 1)] ks) fin
  rw [show sumS [] (fun s => (playQ fin ks [(k, 1)].length s).mean id) = 0 from rfl, show [(k, 1)].length = 1 from rfl, show vn 1 = 1 from rfl, Nat.add_comm 1] at h2
  rw [show (0 : Nat) + 1 = 1 from rfl] at h1
  generalize (playQ fin (k :: ks) 0 s).mean id = a at *
  generalize (playQ fin ks 1 (k, 1)).mean id = b at *
  generalize (playQ fin ks 1 (bump k s)).mean id = c at *
  have h3 : a = b := by grind
  rw [h3]
  grind
def cntK (ks : List Nat) (κ : Nat) : Nat := ks.count κ
theorem sumN_upd {φ : Nat → Rat} {k : Nat} {c : Rat} : ∀ {m : Nat}, k < m → sumN m (fun x => if x = k then φ x + c else φ x) = sumN m φ + c
  | 0, h => by omega
  | m + 1, h => by
    unfold sumN
    by_cases hm : k = m
    · subst hm
      have e := sumN_congr (n := k) (φ := fun x => if x = k then φ x + c else φ x) (ψ := φ) (fun x hx => if_neg (by omega))
      simp only [if_true]
      rw [e]
      grind
    · have hm2 : ¬ m = k := fun e => hm e.symm
      simp only [if_neg hm2]
      rw [sumN_upd (by omega)]
      grind
def InvS (m : Nat) (X : List (Nat × Nat)) (c : Nat → Nat) : Prop := ∀ ψ : Nat → Nat → Rat, sumS X (fun s => ψ s.1 s.2) = sumN m (fun κ => sumN (c κ) (fun r => ψ κ (r + 1)))
theorem inv_ext {m : Nat} : ∀ {ks : List Nat} {X : List (Nat × Nat)} {c : Nat → Nat}, (∀ k ∈ ks, k < m) → InvS m X c → InvS m (extS X ks) (fun κ => c κ + ks.count κ)
  | [], X, c, _, h => h
  | k :: ks, X, c, hk, h => by
    have h2 : InvS m ((k, 1) :: X.map (bump k)) (fun κ => c κ + if κ = k then 1 else 0) := by
      intro ψ
      rw [sumS_cons, sumS_map]
      have e := h (fun κ r => ψ κ (if κ = k then r + 1 else r))
      have e1 : (fun s : Nat × Nat => ψ (bump k s).1 (bump k s).2) = fun s => ψ s.1 (if s.1 = k then s.2 + 1 else s.2) := by
        funext s
        unfold bump
        by_cases hs : s.1 = k
        · rw [if_pos hs, if_pos hs]
        · rw [if_neg hs, if_neg hs]
      show ψ k 1 + sumS X (fun s : Nat × Nat => ψ (bump k s).1 (bump k s).2) = _
      rw [e1, e]
      have e2 : (fun κ => sumN (c κ + if κ = k then 1 else 0) (fun r => ψ κ (r + 1))) = fun κ => if κ = k then sumN (c κ) (fun r => ψ κ ((if κ = k then r + 1 + 1 else r + 1))) + ψ k 1 else sumN (c κ) (fun r => ψ κ (if κ = k then r + 1 + 1 else r + 1)) := by
        funext κ
        by_cases hκ : κ = k
        · subst hκ
          rw [if_pos rfl, if_pos rfl, Nat.add_comm, sumN_add]
          have e3 : sumN (c κ) (fun x => ψ κ (1 + x + 1)) = sumN (c κ) (fun r => ψ κ (if κ = κ then r + 1 + 1 else r + 1)) := sumN_congr fun x _ => by rw [if_pos rfl, Nat.add_comm 1 x]
          rw [e3]
          show 0 + ψ κ 1 + _ = _
          grind
        · rw [if_neg hκ, if_neg hκ, Nat.add_zero]
          exact sumN_congr fun x _ => by rw [if_neg hκ]
      show _ = sumN m (fun κ => sumN (c κ + if κ = k then 1 else 0) (fun r => ψ κ (r + 1)))
      rw [e2, sumN_upd (hk k (by simp))]
      grind
    have h3 := inv_ext (ks := ks) (fun x hx => hk x (by simp [hx])) h2
    intro ψ
    have h4 := h3 ψ
    show sumS (extS ((k, 1) :: X.map (bump k)) ks) _ = _
    rw [h4]
    refine sumN_congr fun κ _ => ?_
    have e : c κ + (if κ = k then 1 else 0) + ks.count κ = c κ + (k :: ks).count κ := by
      rw [List.count_cons]
      by_cases hκ : κ = k
      · subst hκ; simp; omega
      · have h5 : ¬ k = κ := fun e => hκ e.symm
        simp [hκ, h5]
    show sumN (c κ + (if κ = k then 1 else 0) + ks.count κ) _ = _
    rw [e]
theorem tel (G : Nat → Rat) : ∀ c, sumN c (fun r => G (r + 1) - G (r + 1 - 1)) = G c - G 0
  | 0 => by unfold sumN; grind
  | c + 1 => by
    unfold sumN
    rw [tel G c]
    simp only [Nat.add_sub_cancel]
    grind
theorem sum_ext {m : Nat} {ks : List Nat} (h : ∀ k ∈ ks, k < m) (G : Nat → Rat) : sumS (extS [] ks) (fun s => G s.2 - G (s.2 - 1)) = sumN m (fun κ => G (ks.count κ) - G 0) := by
  have h0 : InvS m [] (fun _ => 0) := by
    intro ψ
    show (0 : Rat) = sumN m (fun κ => 0)
    rw [sumN_const]; grind
  have h1 := inv_ext (X := []) h h0 (fun _ r => G r - G (r - 1))
  rw [h1]
  refine sumN_congr fun κ _ => ?_
  simp only [Nat.zero_add]
  exact tel G _
def sumQr : DT Rat → Nat → Rat
  | .ret a, f => a * vn (2 ^ f)
  | .ask _ _, 0 => 0
  | .ask g h, f + 1 => sumQr g f + sumQr h f
def opQr : DT Rat → Nat → Nat
  | .ret _, _ => 0
  | .ask _ _, 0 => 1
  | .ask g h, f + 1 => opQr g f + opQr h f
theorem sumQr_bounds {B : Rat} : ∀ {t : DT Rat} {f : Nat}, t.all (inB B) → sumQr t f ≤ t.mean id * vn (2 ^ f) ∧ t.mean id * vn (2 ^ f) ≤ sumQr t f + B * vn (opQr t f)
  | .ret a, f, h => by
    show a * vn (2 ^ f) ≤ a * vn (2 ^ f) ∧ a * vn (2 ^ f) ≤ a * vn (2 ^ f) + B * vn 0
    rw [vn_zero]
    constructor <;> grind
  | .ask g k, 0, h => by
    obtain ⟨a, b⟩ := mean_in (t := .ask g k) h
    show 0 ≤ (DT.ask g k).mean id * vn 1 ∧ (DT.ask g k).mean id * vn 1 ≤ 0 + B * vn 1
    rw [show vn 1 = 1 from rfl]
    constructor <;> grind
  | .ask g k, f + 1, h => by
    obtain ⟨a, b⟩ := sumQr_bounds (t := g) (f := f) h.1
    obtain ⟨c, d⟩ := sumQr_bounds (t := k) (f := f) h.2
    have e : (DT.ask g k).mean id * vn (2 ^ (f + 1)) = g.mean id * vn (2 ^ f) + k.mean id * vn (2 ^ f) := by
      show (g.mean id + k.mean id) / 2 * vn (2 ^ (f + 1)) = _
      rw [Nat.pow_succ, vn_mul, show vn 2 = 2 from rfl]
      grind
    show sumQr g f + sumQr k f ≤ _ ∧ _ ≤ sumQr g f + sumQr k f + B * vn (opQr g f + opQr k f)
    rw [e, vn_add]
    constructor <;> grind
theorem opQr_le : ∀ {t : DT Rat} {f : Nat}, opQr t f ≤ 2 ^ f
  | .ret _, f => Nat.zero_le _
  | .ask _ _, 0 => Nat.le_refl _
  | .ask g h, f + 1 => by
    have h1 := opQr_le (t := g) (f := f)
    have h2 := opQr_le (t := h) (f := f)
    show opQr g f + opQr h f ≤ _
    rw [Nat.pow_succ]; omega
theorem means {m f : Nat} {k : Nat} {ks : List Nat} {s : Nat × Nat} {G : Nat → Rat} {B : Rat} (hk : ∀ x ∈ k :: ks, x < m) (hs : s.2 = 0) (hB : ∀ r, r ≤ ks.length + 1 → inB B (vn (ks.length + 1) * (G r - G (r - 1)))) :
    let t := playQ (fun s => vn (ks.length + 1) * (G s.2 - G (s.2 - 1))) (k :: ks) 0 s
    let W := sumN m (fun κ => G ((k :: ks).count κ) - G 0) * vn (2 ^ f)
    sumQr t f ≤ W ∧ W ≤ sumQr t f + B * vn (opQr t f) := by
  intro t W
  have h1 := mean_playQ (fin := fun s => vn (ks.length + 1) * (G s.2 - G (s.2 - 1))) (k := k) (ks := ks) (s := s)
  have h2 := sum_ext hk G
  have h3 : sumS (extS [] (k :: ks)) (fun s => vn (ks.length + 1) * (G s.2 - G (s.2 - 1))) = sumS (extS [] (k :: ks)) (fun s => G s.2 - G (s.2 - 1)) * vn (ks.length + 1) := sumS_mul fun s _ => Rat.mul_comm _ _
  have hne := vn_ne (Nat.succ_pos ks.length)
  have hall : t.all (inB B) := all_playQ (by omega) (fun s hs => by
    simp only [List.length_cons] at hs
    exact hB s.2 (by omega))
  obtain ⟨a, b⟩ := sumQr_bounds (f := f) hall
  have e : t.mean id = sumN m (fun κ => G ((k :: ks).count κ) - G 0) := by
    rw [h3, h2] at h1
    have h4 : t.mean id * vn (ks.length + 1) = sumN m (fun κ => G ((k :: ks).count κ) - G 0) * vn (ks.length + 1) := h1
    generalize t.mean id = x at *
    generalize sumN m (fun κ => G ((k :: ks).count κ) - G 0) = y at *
    grind
  rw [e] at a b
  exact ⟨a, b⟩
end Go.Proofs.Ytpkfddfkacijoaa
