import Derived.Test.YtpkfddfkacijoaaGreatDoorZ3
namespace Go.Proofs.YtpkfddfkacijoaaGreatDoor
set_option linter.unusedVariables false
inductive DT (α : Type) where
 | ret (a : α)
 | ask (f g : DT α)
variable {α β : Type}
def DT.bind : DT α → (α → DT β) → DT β
 | .ret a, k => k a
 | .ask f g, k => .ask (f.bind k) (g.bind k)
def DT.run (L : List Bool) : DT α → Nat → Option (α × Nat)
 | .ret a, p => some (a, p)
 | .ask f g, p => if p < L.length then (if L.getD p false then g.run L (p + 1) else f.run L (p + 1)) else none
def DT.mean (v : α → Rat) : DT α → Rat
 | .ret a => v a
 | .ask f g => (f.mean v + g.mean v) / 2
def DT.all (P : α → Prop) : DT α → Prop
 | .ret a => P a
 | .ask f g => f.all P ∧ g.all P
theorem run_ask {L : List Bool} {f g : DT α} {p : Nat} : (DT.ask f g).run L p = if p < L.length then (if L.getD p false then g.run L (p + 1) else f.run L (p + 1)) else none := rfl
theorem run_bind {L : List Bool} {k : α → DT β} : ∀ {t : DT α} {p : Nat}, (t.bind k).run L p = match t.run L p with | some (a, q) => (k a).run L q | none => none
 | .ret a, p => rfl
 | .ask f g, p => by
  rw [show (DT.ask f g).bind k = .ask (f.bind k) (g.bind k) from rfl, run_ask, run_ask]
  by_cases h : p < L.length
  ·
   rw [if_pos h, if_pos h]
   cases L.getD p false
   ·
    exact run_bind
   ·
    exact run_bind
  ·
   rw [if_neg h, if_neg h]
theorem mean_bind {v : β → Rat} {k : α → DT β} : ∀ {t : DT α}, (t.bind k).mean v = t.mean (fun a => (k a).mean v)
 | .ret a => rfl
 | .ask f g => by
  unfold DT.bind DT.mean
  rw [mean_bind, mean_bind]
theorem all_bind {P : β → Prop} {k : α → DT β} : ∀ {t : DT α}, (t.bind k).all P ↔ t.all (fun a => (k a).all P)
 | .ret a => Iff.rfl
 | .ask f g => by
  unfold DT.bind DT.all
  rw [all_bind, all_bind]
theorem mean_congr {v w : α → Rat} : ∀ {t : DT α}, t.all (fun a => v a = w a) → t.mean v = t.mean w
 | .ret a, h => h
 | .ask f g, h => by
  unfold DT.mean
  rw [mean_congr h.1, mean_congr h.2]
theorem all_mono {P Q : α → Prop} (h : ∀ a, P a → Q a) : ∀ {t : DT α}, t.all P → t.all Q
 | .ret a, x => h a x
 | .ask f g, x => ⟨all_mono h x.1, all_mono h x.2⟩
theorem all_and {P Q : α → Prop} : ∀ {t : DT α}, t.all P → t.all Q → t.all (fun a => P a ∧ Q a)
 | .ret a, x, y => ⟨x, y⟩
 | .ask f g, x, y => ⟨all_and x.1 y.1, all_and x.2 y.2⟩
theorem all_true {P : α → Prop} (h : ∀ a, P a) : ∀ {t : DT α}, t.all P
 | .ret a => h a
 | .ask f g => ⟨all_true h, all_true h⟩
theorem all_run {P : α → Prop} {L : List Bool} {a : α} {q : Nat} : ∀ {t : DT α} {p : Nat}, t.all P → t.run L p = some (a, q) → P a
 | .ret b, p, h, e => by
  unfold DT.run at e
  cases e
  exact h
 | .ask f g, p, h, e => by
  unfold DT.run at e
  split at e
  ·
   split at e
   ·
    exact all_run h.2 e
   ·
    exact all_run h.1 e
  ·
   cases e
theorem run_le {L : List Bool} {a : α} {q : Nat} : ∀ {t : DT α} {p : Nat}, p ≤ L.length → t.run L p = some (a, q) → p ≤ q ∧ q ≤ L.length
 | .ret b, p, h, e => by
  unfold DT.run at e
  cases e
  exact ⟨Nat.le_refl _, h⟩
 | .ask f g, p, h, e => by
  unfold DT.run at e
  split at e
  ·
   split at e
   ·
    have := run_le (p := p + 1) (by omega) e; omega
   ·
    have := run_le (p := p + 1) (by omega) e; omega
  ·
   cases e
theorem mean_add {v w : α → Rat} : ∀ {t : DT α}, t.mean (fun a => v a + w a) = t.mean v + t.mean w
 | .ret a => rfl
 | .ask f g => by
  unfold DT.mean
  rw [mean_add, mean_add]
  grind
theorem mean_mul {v : α → Rat} {c : Rat} : ∀ {t : DT α}, t.mean (fun a => v a * c) = t.mean v * c
 | .ret a => rfl
 | .ask f g => by
  unfold DT.mean
  rw [mean_mul, mean_mul]
  grind
theorem mean_const {c : Rat} : ∀ {t : DT α}, t.mean (fun _ => c) = c
 | .ret a => rfl
 | .ask f g => by
  unfold DT.mean
  rw [mean_const, mean_const]
  grind
def ratD (D : Nat) : Nat → Nat → DT Bool
 | 0, _ => .ret false
 | f + 1, r => if D ≤ r + r then .ask (.ret true) (if r + r - D = 0 then .ret false else ratD D f (r + r - D)) else .ask (if r + r = 0 then .ret false else ratD D f (r + r)) (.ret false)
def bit (b : Bool) : Nat := if b then 1 else 0
def vb (b : Bool) : Rat := ((bit b : Nat) : Int)
theorem half_lt {k f r : Nat} (h : f + 1 ≤ k) (hd : 2 ^ (k - (f + 1)) ∣ r) : 2 ^ (k - f) ∣ r + r := by
 obtain ⟨c, rfl⟩ := hd
 refine ⟨c, ?_⟩
 rw [show k - f = k - (f + 1) + 1 by omega, Nat.pow_succ]
 generalize 2 ^ (k - (f + 1)) = x
 rw [Nat.mul_assoc, Nat.mul_comm 2 c, ← Nat.mul_assoc]
 omega
theorem mean_ratD {k : Nat} : ∀ {f r : Nat}, f ≤ k → r < 2 ^ k → 2 ^ (k - f) ∣ r → (ratD (2 ^ k) f r).mean vb * (((2 ^ k : Nat) : Int) : Rat) = (((r : Nat) : Int) : Rat) := by
 intro f
 induction f with
 | zero =>
  intro r _ h1 h2
  have : r = 0 := Nat.eq_zero_of_dvd_of_lt h2 (by simpa using h1)
  subst this
  unfold ratD DT.mean vb bit
  rw [show (((if false = true then 1 else 0 : Nat) : Int) : Rat) = 0 from rfl, Rat.zero_mul]
  rfl
 | succ f ih =>
  intro r hk h1 h2
  have h3 := half_lt hk h2
  unfold ratD
  generalize hD : 2 ^ k = D at *
  have hv1 : vb true = 1 := rfl
  have hv0 : vb false = 0 := rfl
  have hdk : 2 ^ (k - f) ∣ D := by rw [← hD]; exact Nat.pow_dvd_pow 2 (by omega)
  split
  ·
   rename_i hge
   have h4 : 2 ^ (k - f) ∣ r + r - D := Nat.dvd_sub h3 hdk
   have e : (((r + r - D : Nat) : Int) : Rat) = (((r : Nat) : Int) : Rat) + (((r : Nat) : Int) : Rat) - (((D : Nat) : Int) : Rat) := by
    rw [← Rat.intCast_add, ← Rat.intCast_sub]
    congr 1
    omega
   unfold DT.mean
   split
   ·
    rename_i hz
    rw [hz] at e
    rw [show (((0 : Nat) : Int) : Rat) = 0 from rfl] at e
    unfold DT.mean
    rw [hv1, hv0]
    grind
   ·
    have i := ih (r := r + r - D) (by omega) (by omega) h4
    rw [e] at i
    rw [show DT.mean vb (DT.ret true) = 1 from rfl]
    grind
  ·
   rename_i hge
   have e : (((r + r : Nat) : Int) : Rat) = (((r : Nat) : Int) : Rat) + (((r : Nat) : Int) : Rat) := by
    rw [← Rat.intCast_add]
    congr 1
   unfold DT.mean
   split
   ·
    rename_i hz
    rw [hz] at e
    rw [show (((0 : Nat) : Int) : Rat) = 0 from rfl] at e
    unfold DT.mean
    rw [hv0]
    grind
   ·
    have i := ih (r := r + r) (by omega) (by omega) h3
    rw [e] at i
    rw [show DT.mean vb (DT.ret false) = 0 from rfl]
    grind
def rndD (n k : Nat) : DT Nat := if n % 2 ^ k = 0 then .ret (n / 2 ^ k) else (ratD (2 ^ k) k (n % 2 ^ k)).bind fun b => .ret (n / 2 ^ k + bit b)
def vn (n : Nat) : Rat := ((n : Nat) : Int)
theorem vn_mul (a b : Nat) : vn (a * b) = vn a * vn b := by unfold vn; simp
theorem vn_add (a b : Nat) : vn (a + b) = vn a + vn b := by unfold vn; simp
theorem mean_rndD (n k : Nat) : (rndD n k).mean vn * vn (2 ^ k) = vn n := by
 unfold rndD
 have hd := Nat.div_add_mod n (2 ^ k)
 split
 ·
  rename_i h
  rw [h] at hd
  rw [show (DT.ret (n / 2 ^ k)).mean vn = vn (n / 2 ^ k) from rfl, ← vn_mul, Nat.mul_comm]
  rw [Nat.add_zero] at hd
  rw [hd]
 ·
  rw [mean_bind]
  have h1 : ∀ b, ((DT.ret (n / 2 ^ k + bit b)).mean vn) = vn (n / 2 ^ k) + vb b := fun b => vn_add _ _
  have h2 := mean_ratD (k := k) (f := k) (r := n % 2 ^ k) (Nat.le_refl k) (Nat.mod_lt _ (Nat.pow_pos (by decide))) (by rw [Nat.sub_self]; exact Nat.one_dvd _)
  rw [mean_congr (w := fun b => vn (n / 2 ^ k) + vb b) (all_true h1), mean_add, mean_const]
  have h3 : vn n = vn (2 ^ k) * vn (n / 2 ^ k) + vn (n % 2 ^ k) := by rw [← vn_mul, ← vn_add, hd]
  unfold vn at *
  grind
end Go.Proofs.YtpkfddfkacijoaaGreatDoor
