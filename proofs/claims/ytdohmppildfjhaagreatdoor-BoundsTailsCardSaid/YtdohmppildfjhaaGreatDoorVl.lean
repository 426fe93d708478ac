import Derived.Test.YtdohmppildfjhaaGreatDoorE5
namespace Go.Vx
open Go.Eng
set_option linter.unusedSimpArgs false
set_option linter.unusedVariables false
section
variable {P : Program} {k n : Nat} {pl : Plans} {ρ : Vg} {σ : St} {Q : PostV} {K : KR} {e : Bool}

@[go_sem ↓] theorem denV_skip : denV true P k pl .skip ρ σ Q = Q true .normal ρ σ := (rfl)
@[go_sem ↓] theorem denV_region {id : Nat} {l : List Oper} : denV true P k pl (.region id l.toArray false) ρ σ Q = opsV true P l.toArray l ρ σ fun τ => Q τ .normal := (rfl)
@[go_sem ↓] theorem denV_draw {id : Nat} {l : List Oper} : denV true P k pl (.region id l.toArray true) ρ σ Q = hldV true P l.toArray (pl id) ρ σ fun τ => Q τ .normal := (rfl)
@[go_sem ↓] theorem denV_seq {a b : Code} : denV true P k pl (.seq a b) ρ σ Q = denV true P k pl a ρ σ (thenV (fun τ ρ' σ' => denV τ P k pl b ρ' σ' Q) Q) := (rfl)
@[go_sem ↓] theorem denV_cond {c : Operand} {a b : Code} : denV true P k pl (.cond c a b) ρ σ Q = evV ρ c fun v => cdV v (fun τ => denV τ P k pl a ρ σ Q) (fun τ => denV τ P k pl b ρ σ Q) := (rfl)
@[go_sem ↓] theorem denV_block {id : Nat} {c : Code} : denV true P k pl (.block id c) ρ σ Q = denV true P k pl c ρ σ (blockV id Q) := (rfl)
@[go_sem ↓] theorem denV_loop {c : Code} : denV true P k pl (.loop c) ρ σ Q = LoopV k (denV true P k pl c) ρ σ Q := (rfl)
@[go_sem ↓] theorem denV_exit {id : Nat} : denV true P k pl (.exit id) ρ σ Q = Q true (.exit id) ρ σ := (rfl)
@[go_sem ↓] theorem denV_ret : denV true P k pl .ret ρ σ Q = Q true .ret ρ σ := (rfl)
@[go_sem ↓] theorem thenV_normal : thenV K Q true .normal ρ σ = K true ρ σ := (rfl)
@[go_sem ↓] theorem thenV_exit {i : Nat} : thenV K Q true (.exit i) ρ σ = Q true (.exit i) ρ σ := (rfl)
@[go_sem ↓] theorem thenV_ret : thenV K Q true .ret ρ σ = Q true .ret ρ σ := (rfl)
@[go_sem ↓] theorem blockV_normal {id : Nat} : blockV id Q true .normal ρ σ = Q true .normal ρ σ := (rfl)
@[go_sem ↓] theorem blockV_exit {id i : Nat} : blockV id Q true (.exit i) ρ σ = if i = id then Q true .normal ρ σ else Q true (.exit i) ρ σ := (rfl)
@[go_sem ↓] theorem blockV_ret {id : Nat} : blockV id Q true .ret ρ σ = Q true .ret ρ σ := (rfl)
variable {rs : List ResultVar} {R : V → St → Prop} {KV' : List V → Prop}
@[go_sem ↓] theorem retPV_normal : retPV P rs R true .normal ρ σ = resultsV P rs ρ σ fun vs => R (packU vs) σ := (rfl)
@[go_sem ↓] theorem retPV_ret : retPV P rs R true .ret ρ σ = resultsV P rs ρ σ fun vs => R (packU vs) σ := (rfl)
@[go_sem ↓] theorem resultsV_nil : resultsV P [] ρ σ KV' = KV' [] := (rfl)
@[go_sem ↓] theorem resultsV_tmp {t : Nat} : resultsV P (.tmp t :: rs) ρ σ KV' = lkV ρ t fun v => resultsV P rs ρ σ fun vs => KV' (v :: vs) := (rfl)
@[go_sem ↓] theorem resultsV_cell {t ty : Nat} : resultsV P (.cell t ty :: rs) ρ σ KV' = lkV ρ t fun p => ldV P ty p σ fun _ v => resultsV P rs ρ σ fun vs => KV' (v :: vs) := (rfl)
@[go_sem ↓] theorem packU_one (v : V) : packU [v] = v := (rfl)
@[go_sem ↓] theorem packU_two (v u : V) : packU [v, u] = .tup [v, u] := (rfl)
@[go_sem ↓] theorem packU_three (v u x : V) : packU [v, u, x] = .tup [v, u, x] := (rfl)
@[go_sem ↓] theorem packU_none : packU [] = .tup [] := (rfl)
@[go_sem ↓] theorem rgV_nil {i : Nat} : rgV i [] = [] := (rfl)
@[go_sem ↓] theorem rgV_cons {i : Nat} {v : V} {r : List V} : rgV i (v :: r) = (i, v) :: rgV (i + 1) r := (rfl)

variable {KO : V → Prop}
@[go_sem ↓] theorem lkV_cons {s t : Nat} {v : V} {r : Vg} : lkV ((s, v) :: r) t KO = if s = t then KO v else lkV r t KO := by
 unfold lkV
 rw [fdV_cons]
 by_cases h : s = t
 ·
  rw [if_pos h, if_pos h]
 ·
  rw [if_neg h, if_neg h]
@[go_sem ↓] theorem lkV_rg {i t : Nat} {v : V} {r : List V} : lkV (rgV i (v :: r)) t KO = if i = t then KO v else lkV (rgV (i + 1) r) t KO := lkV_cons
@[go_sem ↓] theorem evV_tmp {t : Nat} : evV ρ (.tmp t) KO = lkV ρ t KO := (rfl)
@[go_sem ↓] theorem evV_const {v : Value} : evV ρ (.const v) KO = cstV v KO := (rfl)
@[go_sem ↓] theorem evV_global {g : Nat} : evV ρ (.global g) KO = KO (.lit (.pointer (some ⟨g, 0, none⟩))) := (rfl)
@[go_sem ↓] theorem evV_func {f : Nat} : evV ρ (.func f) KO = KO (.clo f []) := (rfl)
@[go_sem ↓] theorem cstV_int {i : IntKind} {a : Int} : cstV (.int i a) KO = KO (.lit (.int i a)) := (rfl)
@[go_sem ↓] theorem cstV_bool {b : Bool} : cstV (.bool b) KO = KO (.lit (.bool b)) := (rfl)
@[go_sem ↓] theorem cstV_string {s : ByteArray} : cstV (.string s) KO = KO (.lit (.string s)) := (rfl)
@[go_sem ↓] theorem cstV_slice {a : Option Addr} {l c : Nat} : cstV (.slice a l c) KO = KO (.lit (.slice a l c)) := (rfl)
@[go_sem ↓] theorem cstV_nilIface : cstV .nilIface KO = KO (.lit .nilIface) := (rfl)
@[go_sem ↓] theorem evsV_nil : evsV ρ [] KV' = KV' [] := (rfl)
@[go_sem ↓] theorem evsV_cons {x : Operand} {xs : List Operand} : evsV ρ (x :: xs) KV' = evV ρ x fun v => evsV ρ xs fun vs => KV' (v :: vs) := (rfl)
variable {KP : List (Nat × V) → Prop} {KM : Option V → Prop}
@[go_sem ↓] theorem evpV_nil : evpV ρ [] KP = KP [] := (rfl)
@[go_sem ↓] theorem evpV_cons {i : Nat} {x : Operand} {xs : List (Nat × Operand)} : evpV ρ ((i, x) :: xs) KP = evV ρ x fun v => evpV ρ xs fun vs => KP ((i, v) :: vs) := (rfl)
@[go_sem ↓] theorem evoV_none : evoV ρ none KM = KM none := (rfl)
@[go_sem ↓] theorem evoV_some {x : Operand} : evoV ρ (some x) KM = evV ρ x fun v => KM (some v) := (rfl)
@[go_sem ↓] theorem putV_some {d : Nat} {v : V} : putV ρ (some d) v = (d, v) :: ρ := (rfl)
@[go_sem ↓] theorem putV_none {v : V} : putV ρ none v = ρ := (rfl)

variable {all r : List Oper} {d : Option Nat} {dn : Nat} {op : Op} {ty t s : TypeId} {pos : String} {af : Array Edge} {g : Option (Nat × Bool)} {kv : KV} {F : FV}
@[go_sem ↓] theorem opsV_nil : opsV true P all.toArray [] ρ σ K = K true ρ σ := (rfl)
@[go_sem ↓] theorem opsV_some : opsV true P all.toArray (⟨some dn, op, ty, pos, af, none⟩ :: r) ρ σ K = opV true false P ⟨some dn, op, ty, pos, af, none⟩ ρ σ fun τ v σ' => opsV τ P all.toArray r ((dn, v) :: ρ) σ' K := (rfl)
@[go_sem ↓] theorem opsV_none : opsV true P all.toArray (⟨none, op, ty, pos, af, none⟩ :: r) ρ σ K = opV true false P ⟨none, op, ty, pos, af, none⟩ ρ σ fun τ _ σ' => opsV τ P all.toArray r ρ σ' K := (rfl)
@[go_sem ↓] theorem opsV_guard_some {j : Nat} {want : Bool} : opsV true P all.toArray (⟨some dn, op, ty, pos, af, some (j, want)⟩ :: r) ρ σ K =
  gslK all j fun t => lkV ρ t fun g => gdV g want (fun τ => opV τ false P ⟨some dn, op, ty, pos, af, some (j, want)⟩ ρ σ fun τ v σ' => opsV τ P all.toArray r ((dn, v) :: ρ) σ' K) (fun τ => opsV τ P all.toArray r ((dn, .tup []) :: ρ) σ K) := by
 rw [gslK_eq]
 simp only [opsV, List.getElem?_toArray]
 rfl
@[go_sem ↓] theorem hldV_nil : hldV true P all.toArray [] ρ σ K = K true ρ σ := (rfl)
@[go_sem ↓] theorem hldV_0 {i q : Nat} {S : List (Nat × Nat × Nat)} : hldV true P all.toArray ((i, 0, q) :: S) ρ σ K = nthK all i fun o => stepV true P all.toArray o ρ σ 0 fun τ ρ' σ' => hldV τ P all.toArray S ρ' σ' K := (rfl)
@[go_sem ↓] theorem hldV_1 {i q : Nat} {S : List (Nat × Nat × Nat)} : hldV true P all.toArray ((i, 1, q) :: S) ρ σ K = nthK all i fun o => stepV true P all.toArray o ρ σ 1 fun τ ρ' σ' => hldV τ P all.toArray S ρ' σ' K := (rfl)
@[go_sem ↓] theorem hldV_2 {i q : Nat} {S : List (Nat × Nat × Nat)} : hldV true P all.toArray ((i, 2, q) :: S) ρ σ K = nthK all i fun o => stepV true P all.toArray o ρ σ 2 fun τ ρ' σ' => hldV τ P all.toArray S ρ' σ' K := (rfl)
@[go_sem ↓] theorem hldV_3 {i q : Nat} {S : List (Nat × Nat × Nat)} : hldV true P all.toArray ((i, 3, q) :: S) ρ σ K = nthK all i fun o => opV true true P o ρ σ fun τ u σ' => hldV τ P all.toArray S (putV ρ o.dst u) σ' K := (rfl)
@[go_sem ↓] theorem hldV_4 {i q : Nat} {S : List (Nat × Nat × Nat)} : hldV true P all.toArray ((i, 4, q) :: S) ρ σ K = nthK all i fun o => lkN ρ o.dst (opV true true P o ρ σ fun τ _ _ => hldV τ P all.toArray S ρ σ K) := (rfl)
@[go_sem ↓] theorem hldV_5 {i q : Nat} {S : List (Nat × Nat × Nat)} : hldV true P all.toArray ((i, 5, q) :: S) ρ σ K = nthK all i fun o => valV true P o ρ fun τ u => hldV τ P all.toArray S (putV ρ o.dst u) σ K := (rfl)
@[go_sem ↓] theorem hldV_6 {i q : Nat} {S : List (Nat × Nat × Nat)} : hldV true P all.toArray ((i, 6, q) :: S) ρ σ K = nthK all i fun o => nthK all q fun p => opV true true P p ρ σ fun τ u σ1 => opV τ false P o (putV ρ p.dst u) σ1 fun τ _ _ => hldV τ P all.toArray S ρ σ K := (rfl)
@[go_sem ↓] theorem hldV_7 {i q : Nat} {S : List (Nat × Nat × Nat)} : hldV true P all.toArray ((i, 7, q) :: S) ρ σ K = nthK all i fun o => nthK all q fun p => opV true true P p ρ σ fun τ u σ1 => opV τ false P o (putV ρ p.dst u) σ1 fun τ _ σ2 => hldV τ P all.toArray S (putV ρ p.dst u) σ2 K := (rfl)
@[go_sem ↓] theorem hldV_8 {i q : Nat} {S : List (Nat × Nat × Nat)} : hldV true P all.toArray ((i, 8, q) :: S) ρ σ K = nthK all i fun o => nthK all q fun p => opV true true P o ρ σ fun τ u _ => opV τ false P p ρ σ fun τ _ σ1 => opV τ true P o ρ σ1 fun τ u2 _ => sameK u2 u (hldV τ P all.toArray S (putV ρ o.dst u) σ1 K) := (rfl)
@[go_sem ↓] theorem enuV_zero {S : List (Nat × Nat × Nat)} {rm : Nat} : enuV P all.toArray S 0 rm true ρ σ K = K true ρ σ := (rfl)
@[go_sem ↓] theorem sameK_rfl {u : V} {p : Prop} : sameK u u p = p := by simp [sameK]
@[go_sem ↓] theorem lkN_nil {q : Nat} {p : Prop} : lkN [] (some q) p = p := (rfl)
@[go_sem ↓] theorem lkN_cons {q s : Nat} {u : V} {p : Prop} (h : s ≠ q) : lkN ((s, u) :: ρ) (some q) p = lkN ρ (some q) p := by simp [lkN, fdV_cons, h]
@[go_sem ↓] theorem stepV_some {tag : Nat} : stepV true P all.toArray ⟨some dn, op, ty, pos, af, none⟩ ρ σ tag K = runV true P ⟨some dn, op, ty, pos, af, none⟩ ρ σ tag fun τ v σ' => K τ ((dn, v) :: ρ) σ' := (rfl)
@[go_sem ↓] theorem stepV_none {tag : Nat} : stepV true P all.toArray ⟨none, op, ty, pos, af, none⟩ ρ σ tag K = runV true P ⟨none, op, ty, pos, af, none⟩ ρ σ tag fun τ _ σ' => K τ ρ σ' := (rfl)
@[go_sem ↓] theorem stepV_guard_some {tag j : Nat} {want : Bool} : stepV true P all.toArray ⟨some dn, op, ty, pos, af, some (j, want)⟩ ρ σ tag K =
  gslK all j fun t => lkV ρ t fun g => gdV g want (fun τ => runV τ P ⟨some dn, op, ty, pos, af, some (j, want)⟩ ρ σ tag fun τ v σ' => K τ ((dn, v) :: ρ) σ') (fun τ => K τ ((dn, .tup []) :: ρ) σ) := by
 rw [gslK_eq]
 simp only [stepV, List.getElem?_toArray]
 rfl
@[go_sem ↓] theorem runV_zero {o : Oper} : runV true P o ρ σ 0 kv = mldV true P o ρ σ fun τ v => kv τ v σ := (rfl)
@[go_sem ↓] theorem runV_one {o : Oper} : runV true P o ρ σ 1 kv = opV true true P o ρ σ kv := (rfl)
@[go_sem ↓] theorem runV_two {o : Oper} : runV true P o ρ σ 2 kv = opV true false P o ρ σ kv := (rfl)
section
variable {A B : Bool → Prop} {p : Prop} [Decidable p]
@[go_sem ↓] theorem gdV_tt : gdV (.lit (.bool true)) true A B = A true := (rfl)
@[go_sem ↓] theorem gdV_ff : gdV (.lit (.bool false)) false A B = A true := (rfl)
@[go_sem ↓] theorem gdV_tf : gdV (.lit (.bool true)) false A B = B true := (rfl)
@[go_sem ↓] theorem gdV_ft : gdV (.lit (.bool false)) true A B = B true := (rfl)
@[go_sem ↓] theorem gdV_post (h : p) : gdV (.lit (.bool (decide p))) true A B = A true := by simp [gdV, h]
@[go_sem ↓] theorem gdV_negt (h : ¬ p) : gdV (.lit (.bool (decide p))) true A B = B true := by simp [gdV, h]
@[go_sem ↓] theorem gdV_posf (h : p) : gdV (.lit (.bool (decide p))) false A B = B true := by simp [gdV, h]
@[go_sem ↓] theorem gdV_negf (h : ¬ p) : gdV (.lit (.bool (decide p))) false A B = A true := by simp [gdV, h]
@[go_sem ↓] theorem gdV_nposf (h : p) : gdV (.lit (.bool (!decide p))) false A B = A true := by simp [gdV, h]
@[go_sem ↓] theorem cdV_true : cdV (.lit (.bool true)) A B = A true := by simp [cdV]
@[go_sem ↓] theorem cdV_false : cdV (.lit (.bool false)) A B = B true := by simp [cdV]
@[go_sem ↓] theorem cdV_pos (h : p) : cdV (.lit (.bool (decide p))) A B = A true := by simp [cdV, h]
@[go_sem ↓] theorem cdV_neg (h : ¬ p) : cdV (.lit (.bool (decide p))) A B = B true := by simp [cdV, h]
@[go_sem ↓] theorem cdV_npos (h : p) : cdV (.lit (.bool (!decide p))) A B = B true := by simp [cdV, h]
@[go_sem ↓] theorem cdV_nneg (h : ¬ p) : cdV (.lit (.bool (!decide p))) A B = A true := by simp [cdV, h]
variable {x y : V}
@[go_sem ↓] theorem pickV_true : pickV (.lit (.bool true)) x y F = F true x := (rfl)
@[go_sem ↓] theorem pickV_false : pickV (.lit (.bool false)) x y F = F true y := (rfl)
@[go_sem ↓] theorem pickV_pos (h : p) : pickV (.lit (.bool (decide p))) x y F = F true x := by simp [pickV, h]
@[go_sem ↓] theorem pickV_neg (h : ¬ p) : pickV (.lit (.bool (decide p))) x y F = F true y := by simp [pickV, h]
end

variable {x y c a b : Operand} {j : Nat}

@[go_sem ↓] theorem opV_move : opV true e P ⟨d, .move x, ty, pos, af, g⟩ ρ σ kv = evV ρ x fun u => kv true u σ := (rfl)
@[go_sem ↓] theorem valV_move : valV true P ⟨d, .move x, ty, pos, af, g⟩ ρ F = evV ρ x fun u => F true u := (rfl)
@[go_sem ↓] theorem mldV_move : mldV true P ⟨d, .move x, ty, pos, af, g⟩ ρ σ F = evV ρ x fun u => F true u := (rfl)
@[go_sem ↓] theorem opV_assign : opV true e P ⟨d, .assign x, ty, pos, af, g⟩ ρ σ kv = evV ρ x fun u => kv true u σ := (rfl)
@[go_sem ↓] theorem valV_assign : valV true P ⟨d, .assign x, ty, pos, af, g⟩ ρ F = evV ρ x fun u => F true u := (rfl)
@[go_sem ↓] theorem opV_pick : opV true e P ⟨d, .pick c x y, ty, pos, af, g⟩ ρ σ kv = evV ρ c fun c => evV ρ x fun x => evV ρ y fun y => pickV c x y fun τ u => kv τ u σ := (rfl)
@[go_sem ↓] theorem valV_pick : valV true P ⟨d, .pick c x y, ty, pos, af, g⟩ ρ F = evV ρ c fun c => evV ρ x fun x => evV ρ y fun y => pickV c x y F := (rfl)
@[go_sem ↓] theorem opV_binOp {bo : BinOp} : opV true e P ⟨d, .binOp bo t x y s, ty, pos, af, g⟩ ρ σ kv = evV ρ x fun u => evV ρ y fun v => binW P bo t y u v fun τ u => kv τ u σ := (rfl)
@[go_sem ↓] theorem valV_binOp {bo : BinOp} : valV true P ⟨d, .binOp bo t x y s, ty, pos, af, g⟩ ρ F = evV ρ x fun u => evV ρ y fun v => binW P bo t y u v F := (rfl)
@[go_sem ↓] theorem mldV_binOp {bo : BinOp} : mldV true P ⟨d, .binOp bo t x y s, ty, pos, af, g⟩ ρ σ F = evV ρ x fun u => evV ρ y fun v => binW P bo t y u v F := (rfl)
@[go_sem ↓] theorem opV_unOp {uo : UnOp} : opV true e P ⟨d, .unOp uo t x, ty, pos, af, g⟩ ρ σ kv = evV ρ x fun u => unoV uo u fun τ u => kv τ u σ := (rfl)
@[go_sem ↓] theorem mldV_unOp {uo : UnOp} : mldV true P ⟨d, .unOp uo t x, ty, pos, af, g⟩ ρ σ F = evV ρ x fun u => unoV uo u F := (rfl)
@[go_sem ↓] theorem opV_convert : opV true e P ⟨d, .convert s t x, ty, pos, af, g⟩ ρ σ kv = evV ρ x fun u => sbyV P s t u σ kv := (rfl)
@[go_sem ↓] theorem mldV_convert : mldV true P ⟨d, .convert s t x, ty, pos, af, g⟩ ρ σ F = evV ρ x fun u => cvsV P s t u σ F := (rfl)
@[go_sem ↓] theorem opV_slice {lo hi mx : Option Operand} : opV true e P ⟨d, .slice t x lo hi mx, ty, pos, af, g⟩ ρ σ kv = evV ρ x fun x => evoV ρ lo fun lo => evoV ρ hi fun hi => evoV ρ mx fun mx => slcS P t x lo hi mx σ fun τ u => kv τ u σ := (rfl)
@[go_sem ↓] theorem valV_slice {lo hi mx : Option Operand} : valV true P ⟨d, .slice t x lo hi mx, ty, pos, af, g⟩ ρ F = evV ρ x fun x => evoV ρ lo fun lo => evoV ρ hi fun hi => evoV ρ mx fun mx => slcV P t x lo hi mx F := (rfl)
@[go_sem ↓] theorem opV_fieldAddr : opV true e P ⟨d, .fieldAddr t x j, ty, pos, af, g⟩ ρ σ kv = evV ρ x fun u => fadV P t u j fun τ u => kv τ u σ := (rfl)
@[go_sem ↓] theorem valV_fieldAddr : valV true P ⟨d, .fieldAddr t x j, ty, pos, af, g⟩ ρ F = evV ρ x fun u => fadV P t u j F := (rfl)
@[go_sem ↓] theorem mldV_fieldAddr : mldV true P ⟨d, .fieldAddr t x j, ty, pos, af, g⟩ ρ σ F = evV ρ x fun u => fadV P t u j F := (rfl)
@[go_sem ↓] theorem opV_field : opV true e P ⟨d, .field t x j, ty, pos, af, g⟩ ρ σ kv = evV ρ x fun u => fldV P t u j fun τ u => kv τ u σ := (rfl)
@[go_sem ↓] theorem opV_indexAddr : opV true e P ⟨d, .indexAddr t x y, ty, pos, af, g⟩ ρ σ kv = evV ρ x fun u => evV ρ y fun v => idxV P t u v fun τ u => kv τ u σ := (rfl)
@[go_sem ↓] theorem valV_indexAddr : valV true P ⟨d, .indexAddr t x y, ty, pos, af, g⟩ ρ F = evV ρ x fun u => evV ρ y fun v => idxV P t u v F := (rfl)
@[go_sem ↓] theorem opV_index : opV true e P ⟨d, .index t x y, ty, pos, af, g⟩ ρ σ kv = evV ρ x fun u => evV ρ y fun v => ixvV P t u v fun τ u => kv τ u σ := (rfl)
@[go_sem ↓] theorem valV_index : valV true P ⟨d, .index t x y, ty, pos, af, g⟩ ρ F = evV ρ x fun u => evV ρ y fun v => ixvV P t u v F := (rfl)
@[go_sem ↓] theorem opV_extract : opV true e P ⟨d, .extract x j, ty, pos, af, g⟩ ρ σ kv = evV ρ x fun u => extV u j fun τ u => kv τ u σ := (rfl)
@[go_sem ↓] theorem valV_extract : valV true P ⟨d, .extract x j, ty, pos, af, g⟩ ρ F = evV ρ x fun u => extV u j F := (rfl)
@[go_sem ↓] theorem opV_build {ps : List (Nat × Operand)} : opV true e P ⟨d, .build t ps.toArray, ty, pos, af, g⟩ ρ σ kv = evpV ρ ps fun vs => bldV P t vs fun τ u => kv τ u σ := (rfl)
@[go_sem ↓] theorem valV_build {ps : List (Nat × Operand)} : valV true P ⟨d, .build t ps.toArray, ty, pos, af, g⟩ ρ F = evpV ρ ps fun vs => bldV P t vs F := (rfl)
@[go_sem ↓] theorem opV_makeInterface : opV true e P ⟨d, .makeInterface t x, ty, pos, af, g⟩ ρ σ kv = evV ρ x fun u => mkiV P t u fun τ u => kv τ u σ := (rfl)
@[go_sem ↓] theorem mldV_load : mldV true P ⟨d, .load t x, ty, pos, af, g⟩ ρ σ F = evV ρ x fun u => ldV P t u σ F := (rfl)
@[go_sem ↓] theorem opV_load : opV true e P ⟨d, .load t x, ty, pos, af, g⟩ ρ σ kv = evV ρ x fun u => ldV P t u σ fun τ v => kv τ v σ := (rfl)
@[go_sem ↓] theorem opV_store : opV true false P ⟨d, .store t x y, ty, pos, af, g⟩ ρ σ kv = evV ρ x fun u => evV ρ y fun v => stV P t u v σ fun τ σ' => kv τ (.tup []) σ' := (rfl)
@[go_sem ↓] theorem opV_lookup : opV true e P ⟨d, .lookup t x y false, ty, pos, af, g⟩ ρ σ kv = evV ρ x fun u => evV ρ y fun v => lupV P t u v σ fun τ u => kv τ u σ := (rfl)
@[go_sem ↓] theorem opV_mapUpdate {z : Operand} : opV true false P ⟨d, .mapUpdate t x y z, ty, pos, af, g⟩ ρ σ kv = evV ρ x fun u => evV ρ y fun k => evV ρ z fun v => mupV P t u k v σ fun τ σ' => kv τ (.tup []) σ' := (rfl)
@[go_sem ↓] theorem opV_insert {z : Operand} : opV true false P ⟨d, .insert t x y z, ty, pos, af, g⟩ ρ σ kv = evV ρ x fun u => evV ρ y fun k => evV ρ z fun v => mupV P t u k v σ fun τ σ' => kv τ (.tup []) σ' := (rfl)
@[go_sem ↓] theorem opV_makeMap : opV true e P ⟨d, .makeMap t none, ty, pos, af, g⟩ ρ σ kv = mkmV P t σ kv := (rfl)
@[go_sem ↓] theorem opV_range : opV true e P ⟨d, .range t x, ty, pos, af, g⟩ ρ σ kv = evV ρ x fun u => rngV P t u σ kv := (rfl)
@[go_sem ↓] theorem opV_next : opV true false P ⟨d, .next x false, ty, pos, af, g⟩ ρ σ kv = evV ρ x fun u => nxtV u σ kv := (rfl)
@[go_sem ↓] theorem opV_entry : opV true e P ⟨d, .entry x, ty, pos, af, g⟩ ρ σ kv = evV ρ x fun u => entV u σ kv := (rfl)
@[go_sem ↓] theorem obM_mref {o : Nat} {F' : Nat → ML → Prop} : obM σ (.mref o) F' = obV σ o fun ob => mpO ob fun l => F' o l := (rfl)
@[go_sem ↓] theorem mpO_map {l : ML} {F' : ML → Prop} : mpO (.map l) F' = F' l := (rfl)
@[go_sem ↓] theorem kyK_agg {a b : Int} {c : Bool} {F' : Int × Int × Bool → Prop} : kyK (.agg [.lit (.int .i64 a), .lit (.int .i64 b), .lit (.bool c)]) F' = F' (a, b, c) := (rfl)
@[go_sem ↓] theorem agK_agg {c : List V} {F' : List V → Prop} : agK (.agg c) F' = F' c := (rfl)
theorem lupV_of {u v : V} {F : FV} {C : List Value} (h : mpOf P t = some C) : lupV P t u v σ F = allOne C (obM σ u fun _ l => kyK v fun k => F true (.agg (((lookM k l).getD (C.map PV.lit)).map V.ofP))) := by simp [lupV, h]
theorem mupV_of {u k' x' : V} {K' : KS} {C : List Value} (h : mpOf P t = some C) : mupV P t u k' x' σ K' = obM σ u fun o l => kyK k' fun k => agK x' fun c => pvsK c fun ps => K' true (σ.set o (some (.map (putM k ps l)))) := by simp [mupV, h]
theorem mkmV_of {C : List Value} (h : mpOf P t = some C) : mkmV P t σ kv = newO σ (.map []) fun o σ' => kv true (.mref o) σ' := by simp [mkmV, h]
theorem rngV_of {u : V} {C : List Value} (h : mpOf P t = some C) : rngV P t u σ kv = obM σ u fun o l => newO σ (.iter o l.length []) fun i σ' => kv true (.ref i 0 0 0) σ' := by simp [rngV, h]
theorem nxt_of {K : KV} {i o n : Nat} {seen : List Nat} {l : ML} (h1 : σ[i]? = some (some (.iter o n seen))) (h2 : σ[o]? = some (some (.map l))) (hn : n = l.length) (ha : allSeen n seen → K true (.tup [.lit (.bool false)]) σ)
  (hb : ∀ j k x, l[j]? = some (k, x) → j ∉ seen → K true (.tup [.lit (.bool true), kyV k, .agg (x.map V.ofP)]) (σ.set i (some (.iter o n (seen ++ [j]))))) : nxtV (.ref i 0 0 0) σ K := by
 show obV σ i _
 unfold obV atK
 rw [h1]
 show obV σ o _
 unfold obV atK
 rw [h2]
 exact ⟨hn, ha, hb⟩
theorem ent_of {K : KV} {i o n j : Nat} {seen : List Nat} {l : ML} {k : Int × Int × Bool} {x : List PV} (h1 : σ[i]? = some (some (.iter o n (seen ++ [j])))) (h2 : σ[o]? = some (some (.map l))) (hn : n = l.length) (hj : l[j]? = some (k, x))
  (h : K true (.tup [kyV k, .agg (x.map V.ofP)]) σ) : entV (.ref i 0 0 0) σ K := by
 show obV σ i _
 unfold obV atK
 rw [h1]
 show obV σ o _
 unfold obV atK
 rw [h2]
 refine ⟨hn, ?_⟩
 rw [List.getLast?_concat]
 show atK l j _
 unfold atK
 rw [hj]
 exact h
@[go_sem ↓] theorem opV_alloc : opV true e P ⟨d, .alloc t, ty, pos, af, g⟩ ρ σ kv = alcV P t σ kv := (rfl)
@[go_sem ↓] theorem opV_box : opV true e P ⟨d, .box t x, ty, pos, af, g⟩ ρ σ kv = evV ρ x fun u => boxV u σ kv := (rfl)
@[go_sem ↓] theorem opV_buildSlice {ps : List (Nat × Operand)} : opV true e P ⟨d, .buildSlice t n ps.toArray, ty, pos, af, g⟩ ρ σ kv = evpV ρ ps fun vs => bslV P t n vs σ kv := (rfl)
@[go_sem ↓] theorem opV_makeSlice : opV true e P ⟨d, .makeSlice t x y, ty, pos, af, g⟩ ρ σ kv = evV ρ x fun l => evV ρ y fun c => mslV P t l c σ kv := (rfl)
@[go_sem ↓] theorem opV_makeFunc {f : Nat} {cs : List Operand} : opV true e P ⟨d, .makeFunc (.func f) #[] cs.toArray, ty, pos, af, g⟩ ρ σ kv = evsV ρ cs fun c => kv true (.clo f c) σ := (rfl)
@[go_sem ↓] theorem opV_call {f : Operand} {xs : List Operand} {ats : Array TypeId} : opV true e P ⟨d, .call { callee := .value f, args := xs.toArray, argTypes := ats }, ty, pos, af, g⟩ ρ σ kv = evV ρ f fun f => evsV ρ xs fun args => calV P e f args σ kv := (rfl)
@[go_sem ↓] theorem opV_invoke {rc : Operand} {nm : String} {xs : List Operand} {ats : Array TypeId} : opV true e P ⟨d, .call { callee := .invoke rc nm, args := xs.toArray, argTypes := ats }, ty, pos, af, g⟩ ρ σ kv = evV ρ rc fun u => evsV ρ xs fun args => invV P e u nm args σ kv := (rfl)
@[go_sem ↓] theorem opV_builtin {b : Builtin} {xs : List Operand} {ats : List TypeId} : opV true e P ⟨d, .call { callee := .builtin b, args := xs.toArray, argTypes := ats.toArray }, ty, pos, af, g⟩ ρ σ kv = evsV ρ xs fun args => bltV P e b ats args σ kv := (rfl)
@[go_sem ↓] theorem calV_clo {f : Nat} {cs args : List V} : calV P e (.clo f cs) args σ kv = callV P e f (args ++ cs) σ kv := (rfl)
@[go_sem ↓] theorem bltV_append {t tx : TypeId} {u x : V} : bltV P e .append [t, tx] [u, x] σ kv = apdV P e t tx u x σ kv := (rfl)
@[go_sem ↓] theorem bltV_min {ts : List TypeId} {us : List V} : bltV P e .min ts us σ kv = mmV .min us fun τ u => kv τ u σ := (rfl)
@[go_sem ↓] theorem bltV_max {ts : List TypeId} {us : List V} : bltV P e .max ts us σ kv = mmV .max us fun τ u => kv τ u σ := (rfl)
variable {i1 i2 i3 i4 : IntKind} {n1 n2 n3 n4 : Int}
@[go_sem ↓] theorem mmV_min2 : mmV .min [.lit (.int i1 n1), .lit (.int i2 n2)] F = F true (.lit (.int i1 (min n1 n2))) := (rfl)
@[go_sem ↓] theorem mmV_max2 : mmV .max [.lit (.int i1 n1), .lit (.int i2 n2)] F = F true (.lit (.int i1 (max n1 n2))) := (rfl)

section
variable {bo : BinOp} {yy : Operand} {u v : V} {t s : TypeId}
@[go_sem ↓] theorem binW_int {i : IntKind} {a : Int} : binW P bo t yy (.lit (.int i a)) v F = binV P bo t (.lit (.int i a)) v F := (rfl)
@[go_sem ↓] theorem binW_bool {a : Bool} : binW P bo t yy (.lit (.bool a)) v F = binV P bo t (.lit (.bool a)) v F := (rfl)
@[go_sem ↓] theorem binW_str {a : ByteArray} : binW P bo t yy (.lit (.string a)) v F = binV P bo t (.lit (.string a)) v F := (rfl)
@[go_sem ↓] theorem binW_row {z : Nat} {l : List (List PV)} : binW P bo t yy (.row z l) v F = binV P bo t (.row z l) v F := (rfl)
theorem invV_of {nm : String} {f : FuncId} {i : IntKind} {a : Int} {args : List V} (h : mtOf P t nm = some f) : invV P e (.lit (.iface t (.int i a))) nm args σ kv = callV P e f (.lit (.int i a) :: args) σ kv := by unfold invV; simp only [h]
theorem mkiV_of {i k : IntKind} {a : Int} (h : P.underlying t = some (.int k)) : mkiV P t (.lit (.int i a)) F = F true (.lit (.iface t (.int i a))) := by unfold mkiV; simp only [h]
theorem binW_eqn {s : TypeId} {a : Value} (h : isIfc P t = true) : binW P .eql t (.const .nilIface) (.lit (.iface s a)) (.lit .nilIface) F = F true (.lit (.bool false)) := by simp [binW, h, isNilC, litI, nilI, isEq]
theorem sbyV_num (h : (knOf P s).isSome = true) : sbyV P s t u σ kv = cvsV P s t u σ fun τ u => kv τ u σ := by
 unfold sbyV
 rw [if_neg]
 rintro ⟨h1, _⟩
 unfold knOf at h
 unfold isStr at h1
 cases hq : P.underlying s with
 | none => rw [hq] at h1; cases h1
 | some d => rw [hq] at h h1; cases d <;> first | (simp at h; done) | (simp at h1; done)
theorem sbyV_byt (h : isByt P s = true) : sbyV P s t u σ kv = cvsV P s t u σ fun τ u => kv τ u σ := by
 unfold sbyV
 rw [if_neg]
 rintro ⟨h1, _⟩
 unfold isByt at h
 unfold isStr at h1
 cases hq : P.underlying s with
 | none => rw [hq] at h1; cases h1
 | some d => rw [hq] at h h1; cases d <;> first | (simp at h; done) | (simp at h1; done)
end
section
variable {i j : IntKind} {a b : Int}
theorem binV_int {bo : BinOp} {r : Value} (h0 : isSh bo = false) (h : intI bo i a b = some r) : binV P bo t (.lit (.int i a)) (.lit (.int i b)) F = F true (.lit r) := by simp [binV, h0, h, litI]
theorem binV_sh {bo : BinOp} {r : Value} (h0 : isSh bo = true) (h : shI bo i a b = some r) : binV P bo t (.lit (.int i a)) (.lit (.int j b)) F = F true (.lit r) := by simp [binV, h0, h, litI]

@[go_sem ↓] theorem binV_add : binV P .add t (.lit (.int i a)) (.lit (.int i b)) F = F true (.lit (.int i (i.wrap (a + b)))) := binV_int rfl rfl
@[go_sem ↓] theorem binV_sub : binV P .sub t (.lit (.int i a)) (.lit (.int i b)) F = F true (.lit (.int i (i.wrap (a - b)))) := binV_int rfl rfl
@[go_sem ↓] theorem binV_mul : binV P .mul t (.lit (.int i a)) (.lit (.int i b)) F = F true (.lit (.int i (i.wrap (a * b)))) := binV_int rfl rfl
@[go_sem ↓] theorem binV_quo (h : b ≠ 0) : binV P .quo t (.lit (.int i a)) (.lit (.int i b)) F = F true (.lit (.int i (i.wrap (a.tdiv b)))) := binV_int rfl (by simp [intI, h])
@[go_sem ↓] theorem binV_rem (h : b ≠ 0) : binV P .rem t (.lit (.int i a)) (.lit (.int i b)) F = F true (.lit (.int i (a.tmod b))) := binV_int rfl (by simp [intI, h])
@[go_sem ↓] theorem binV_lss : binV P .lss t (.lit (.int i a)) (.lit (.int i b)) F = F true (.lit (.bool (decide (a < b)))) := binV_int rfl rfl
@[go_sem ↓] theorem binV_leq : binV P .leq t (.lit (.int i a)) (.lit (.int i b)) F = F true (.lit (.bool (decide (a ≤ b)))) := binV_int rfl rfl
@[go_sem ↓] theorem binV_gtr : binV P .gtr t (.lit (.int i a)) (.lit (.int i b)) F = F true (.lit (.bool (decide (b < a)))) := binV_int rfl rfl
@[go_sem ↓] theorem binV_geq : binV P .geq t (.lit (.int i a)) (.lit (.int i b)) F = F true (.lit (.bool (decide (b ≤ a)))) := binV_int rfl rfl
@[go_sem ↓] theorem binV_eql : binV P .eql t (.lit (.int i a)) (.lit (.int i b)) F = F true (.lit (.bool (decide (a = b)))) := binV_int rfl rfl
@[go_sem ↓] theorem binV_neq : binV P .neq t (.lit (.int i a)) (.lit (.int i b)) F = F true (.lit (.bool (!decide (a = b)))) := binV_int rfl rfl
@[go_sem ↓] theorem binV_and : binV P .and t (.lit (.int i a)) (.lit (.int i b)) F = F true (.lit (.int i (bitK .and i a b))) := binV_int rfl rfl
@[go_sem ↓] theorem binV_or : binV P .or t (.lit (.int i a)) (.lit (.int i b)) F = F true (.lit (.int i (bitK .or i a b))) := binV_int rfl rfl
@[go_sem ↓] theorem binV_shr_i64 (h : 0 ≤ b ∧ b ≤ 64) : binV P .shr t (.lit (.int .i64 a)) (.lit (.int j b)) F = F true (.lit (.int .i64 (a / 2 ^ b.toNat))) := by
 refine binV_sh rfl ?_
 simp only [shI]
 rw [if_pos (by omega), Nat.min_eq_left (by simp only [IntKind.bits]; omega)]
@[go_sem ↓ high] theorem binV_shl_i64n {m : Nat} (h : m ≤ 64) : binV P .shl t (.lit (.int .i64 a)) (.lit (.int j (m : Int))) F = F true (.lit (.int .i64 (IntKind.i64.wrap (a * 2 ^ m)))) := by
 refine binV_sh rfl ?_
 simp only [shI]
 rw [if_pos (by omega)]
 simp only [Int.toNat_natCast]
 rw [Nat.min_eq_left (by simpa [IntKind.bits] using h)]
@[go_sem ↓ high] theorem binV_shr_i64n {m : Nat} (h : m ≤ 64) : binV P .shr t (.lit (.int .i64 a)) (.lit (.int j (m : Int))) F = F true (.lit (.int .i64 (a / 2 ^ m))) := by
 refine binV_sh rfl ?_
 simp only [shI]
 rw [if_pos (by omega)]
 simp only [Int.toNat_natCast]
 rw [Nat.min_eq_left (by simpa [IntKind.bits] using h)]
@[go_sem ↓] theorem binV_shr_u64 (h : 0 ≤ b ∧ b ≤ 64) : binV P .shr t (.lit (.int .u64 a)) (.lit (.int j b)) F = F true (.lit (.int .u64 (a / 2 ^ b.toNat))) := by
 refine binV_sh rfl ?_
 simp only [shI]
 rw [if_pos (by omega), Nat.min_eq_left (by simp only [IntKind.bits]; omega)]
@[go_sem ↓ high] theorem binV_shl_u64n {m : Nat} (h : m ≤ 64) : binV P .shl t (.lit (.int .u64 a)) (.lit (.int j (m : Int))) F = F true (.lit (.int .u64 (IntKind.u64.wrap (a * 2 ^ m)))) := by
 refine binV_sh rfl ?_
 simp only [shI]
 rw [if_pos (by omega)]
 simp only [Int.toNat_natCast]
 rw [Nat.min_eq_left (by simpa [IntKind.bits] using h)]
@[go_sem ↓ high] theorem binV_shr_u64n {m : Nat} (h : m ≤ 64) : binV P .shr t (.lit (.int .u64 a)) (.lit (.int j (m : Int))) F = F true (.lit (.int .u64 (a / 2 ^ m))) := by
 refine binV_sh rfl ?_
 simp only [shI]
 rw [if_pos (by omega)]
 simp only [Int.toNat_natCast]
 rw [Nat.min_eq_left (by simpa [IntKind.bits] using h)]
@[go_sem ↓ high] theorem binV_add_i64 (h : -9223372036854775808 ≤ a + b ∧ a + b ≤ 9223372036854775807) : binV P .add t (.lit (.int .i64 a)) (.lit (.int .i64 b)) F = F true (.lit (.int .i64 (a + b))) := binV_int rfl (by simp only [intI]; rw [wrap_i64 h])
@[go_sem ↓ high] theorem binV_sub_i64 (h : -9223372036854775808 ≤ a - b ∧ a - b ≤ 9223372036854775807) : binV P .sub t (.lit (.int .i64 a)) (.lit (.int .i64 b)) F = F true (.lit (.int .i64 (a - b))) := binV_int rfl (by simp only [intI]; rw [wrap_i64 h])
@[go_sem ↓ high] theorem binV_mul_i64 (h : -9223372036854775808 ≤ a * b ∧ a * b ≤ 9223372036854775807) : binV P .mul t (.lit (.int .i64 a)) (.lit (.int .i64 b)) F = F true (.lit (.int .i64 (a * b))) := binV_int rfl (by simp only [intI]; rw [wrap_i64 h])
@[go_sem ↓ high] theorem binV_add_u64 (h : 0 ≤ a + b ∧ a + b ≤ 18446744073709551615) : binV P .add t (.lit (.int .u64 a)) (.lit (.int .u64 b)) F = F true (.lit (.int .u64 (a + b))) := binV_int rfl (by simp only [intI]; rw [wrap_u64 h])
@[go_sem ↓ high] theorem binV_sub_u64 (h : 0 ≤ a - b ∧ a - b ≤ 18446744073709551615) : binV P .sub t (.lit (.int .u64 a)) (.lit (.int .u64 b)) F = F true (.lit (.int .u64 (a - b))) := binV_int rfl (by simp only [intI]; rw [wrap_u64 h])
@[go_sem ↓ high] theorem binV_mul_u64 (h : 0 ≤ a * b ∧ a * b ≤ 18446744073709551615) : binV P .mul t (.lit (.int .u64 a)) (.lit (.int .u64 b)) F = F true (.lit (.int .u64 (a * b))) := binV_int rfl (by simp only [intI]; rw [wrap_u64 h])
@[go_sem ↓ high] theorem binV_add_u32 (h : 0 ≤ a + b ∧ a + b ≤ 4294967295) : binV P .add t (.lit (.int .u32 a)) (.lit (.int .u32 b)) F = F true (.lit (.int .u32 (a + b))) := binV_int rfl (by simp only [intI]; rw [wrap_u32 h])
@[go_sem ↓ high] theorem binV_mul_u32 (h : 0 ≤ a * b ∧ a * b ≤ 4294967295) : binV P .mul t (.lit (.int .u32 a)) (.lit (.int .u32 b)) F = F true (.lit (.int .u32 (a * b))) := binV_int rfl (by simp only [intI]; rw [wrap_u32 h])
@[go_sem ↓ high] theorem binV_quo_i64 (h : 0 ≤ a ∧ a ≤ 9223372036854775807 ∧ 0 < b) : binV P .quo t (.lit (.int .i64 a)) (.lit (.int .i64 b)) F = F true (.lit (.int .i64 (a / b))) := by
 have := div_le_self' h.1 h.2.2
 exact binV_int rfl (by simp only [intI]; rw [if_neg (by omega), Int.tdiv_eq_ediv_of_nonneg h.1, wrap_i64 (by omega)])
@[go_sem ↓ high] theorem binV_quo_u64 (h : 0 ≤ a ∧ a ≤ 18446744073709551615 ∧ 0 < b) : binV P .quo t (.lit (.int .u64 a)) (.lit (.int .u64 b)) F = F true (.lit (.int .u64 (a / b))) := by
 have := div_le_self' h.1 h.2.2
 exact binV_int rfl (by simp only [intI]; rw [if_neg (by omega), Int.tdiv_eq_ediv_of_nonneg h.1, wrap_u64 (by omega)])
@[go_sem ↓ high] theorem binV_quo_u32 (h : 0 ≤ a ∧ a ≤ 4294967295 ∧ 0 < b) : binV P .quo t (.lit (.int .u32 a)) (.lit (.int .u32 b)) F = F true (.lit (.int .u32 (a / b))) := by
 have := div_le_self' h.1 h.2.2
 exact binV_int rfl (by simp only [intI]; rw [if_neg (by omega), Int.tdiv_eq_ediv_of_nonneg h.1, wrap_u32 (by omega)])
@[go_sem ↓ high] theorem binV_rem_pos (h : 0 ≤ a ∧ b ≠ 0) : binV P .rem t (.lit (.int i a)) (.lit (.int i b)) F = F true (.lit (.int i (a % b))) := binV_int rfl (by simp [intI, h.2, Int.tmod_eq_emod_of_nonneg h.1])
@[go_sem ↓] theorem unoV_not {b : Bool} : unoV .not (.lit (.bool b)) F = F true (.lit (.bool !b)) := (rfl)
@[go_sem ↓] theorem unoV_neg : unoV .neg (.lit (.int i a)) F = F true (.lit (.int i (i.wrap (0 - a)))) := (rfl)
theorem binV_mask (q : Nat) {m z : Int} (hj : q < i.bits) (hm : m = 2 ^ q - 1) (hz : z = 2 ^ q) : binV P .and t (.lit (.int i a)) (.lit (.int i m)) F = F true (.lit (.int i (a % z))) := binV_int rfl (by simp only [intI]; rw [hm, hz, bitK_mask hj])
theorem binV_beq {x y : Bool} (h : isBool P t = true) : binV P .eql t (.lit (.bool x)) (.lit (.bool y)) F = F true (.lit (.bool (x == y))) := by simp [binV, h, litI, boolI, isEq]
theorem binV_bne {x y : Bool} (h : isBool P t = true) : binV P .neq t (.lit (.bool x)) (.lit (.bool y)) F = F true (.lit (.bool (!(x == y)))) := by simp [binV, h, litI, boolI, isEq]
theorem binV_seq {z : Nat} {l : List (List PV)} (h : isSlc P t = true ∧ 0 < z) : binV P .eql t (.row z l) (.lit (.slice none 0 0)) F = nilB .eql l.isEmpty F := by simp [binV, h]
@[go_sem ↓] theorem nilB_none : nilB .eql false F = F true (.lit (.bool false)) := (rfl)
theorem nilB_both (h1 : F true (.lit (.bool true))) (h2 : F true (.lit (.bool false))) : nilB .eql true F := ⟨h1, h2⟩
theorem cvtV_of {kd : IntKind} (hs : (knOf P s).isSome = true) (ht : knOf P t = some kd) : cvtV P s t (.lit (.int i a)) F = F true (.lit (.int kd (kd.wrap a))) := by
 obtain ⟨q, hq⟩ := Option.isSome_iff_exists.1 hs
 simp [cvtV, hq, ht]

theorem cvtV_u8 (hs : (knOf P s).isSome = true) (ht : knOf P t = some .u8) (h : 0 ≤ a ∧ a ≤ 255) : cvtV P s t (.lit (.int i a)) F = F true (.lit (.int .u8 a)) := by rw [cvtV_of hs ht, wrap_u8 h]
theorem cvtV_u32 (hs : (knOf P s).isSome = true) (ht : knOf P t = some .u32) (h : 0 ≤ a ∧ a ≤ 4294967295) : cvtV P s t (.lit (.int i a)) F = F true (.lit (.int .u32 a)) := by rw [cvtV_of hs ht, wrap_u32 h]
theorem cvtV_u64 (hs : (knOf P s).isSome = true) (ht : knOf P t = some .u64) (h : 0 ≤ a ∧ a ≤ 18446744073709551615) : cvtV P s t (.lit (.int i a)) F = F true (.lit (.int .u64 a)) := by rw [cvtV_of hs ht, wrap_u64 h]
theorem cvtV_i64 (hs : (knOf P s).isSome = true) (ht : knOf P t = some .i64) (h : -9223372036854775808 ≤ a ∧ a ≤ 9223372036854775807) : cvtV P s t (.lit (.int i a)) F = F true (.lit (.int .i64 a)) := by rw [cvtV_of hs ht, wrap_i64 h]
end
@[go_sem ↓] theorem extV_tup {l : List V} {j : Nat} : extV (.tup l) j F = atK l j fun x => F true x := (rfl)

section
variable {α β : Type} {v : α} {l c : List α} {i m : Nat} {G : α → Prop} {H : List α → Prop} {f : β → α} {L : List β}
@[go_sem ↓] theorem atK_zero : atK (v :: l) 0 G = G v := (rfl)
@[go_sem ↓] theorem atK_succ : atK (v :: l) (i + 1) G = atK l i G := by simp [atK]
theorem atK_of {x : α} (h : l[i]? = some x) : atK l i G = G x := by simp [atK, h]
@[go_sem ↓] theorem atK_map [Inhabited β] (h : i < L.length) : atK (L.map f) i G = G (f (L.getD i default)) := by
 rw [atK_of (x := f (L.getD i default))]
 rw [List.getElem?_map, List.getElem?_eq_getElem h, List.getD_eq_getElem?_getD, List.getElem?_eq_getElem h]
 rfl
@[go_sem ↓] theorem tkK_done : tkK l 0 0 H = H [] := by simp [tkK]
@[go_sem ↓] theorem tkK_zero : tkK (v :: l) 0 (m + 1) H = tkK l 0 m fun r => H (v :: r) := by simp [tkK]
@[go_sem ↓] theorem tkK_succ : tkK (v :: l) (i + 1) m H = tkK l i m H := by
 unfold tkK
 rw [List.length_cons, List.drop_succ_cons]
 by_cases h : i + m ≤ l.length
 ·
  rw [if_pos h, if_pos (by omega)]
 ·
  rw [if_neg h, if_neg (by omega)]
@[go_sem ↓] theorem wrK_done : wrK l 0 [] H = H l := by
 simp [wrK]
@[go_sem ↓] theorem wrK_zero {x : α} : wrK (v :: l) 0 (x :: c) H = wrK l 0 c fun r => H (x :: r) := by
 simp [wrK, Nat.add_comm]
@[go_sem ↓] theorem wrK_succ : wrK (v :: l) (i + 1) c H = wrK l i c fun r => H (v :: r) := by
 unfold wrK
 by_cases h : i + c.length ≤ l.length
 ·
  rw [if_pos h, if_pos (by simp; omega)]
  simp [Nat.add_right_comm]
 ·
  rw [if_neg h, if_neg (by simp; omega)]
theorem wrK_one {x : α} (h : i < l.length) : wrK l i [x] H = H (l.set i x) := by
 unfold wrK
 rw [if_pos (by simp; omega)]
 congr 1
 rw [List.set_eq_take_append_cons_drop, if_pos h]
 simp
@[go_sem ↓] theorem wrK_map {x : α} (h : i < L.length) : wrK (L.map f) i [x] H = H ((L.map f).set i x) := wrK_one (by simpa using h)
@[go_sem ↓] theorem lenK_nil {p : Prop} : lenK ([] : List α) 0 p = p := by simp [lenK]
@[go_sem ↓] theorem lenK_cons {p : Prop} : lenK (v :: l) (m + 1) p = lenK l m p := by simp [lenK]
end
section
variable {p : Prop} {C : List Value}
@[go_sem ↓] theorem allOne_nil : allOne [] p = p := by simp [allOne]
@[go_sem ↓] theorem allOne_int {i : IntKind} {a : Int} : allOne (.int i a :: C) p = allOne C p := by simp [allOne, oneC]
@[go_sem ↓] theorem allOne_bool {b : Bool} : allOne (.bool b :: C) p = allOne C p := by simp [allOne, oneC]
@[go_sem ↓] theorem allOne_slice {a : Option Addr} {l c : Nat} : allOne (.slice a l c :: C) p = allOne C p := by simp [allOne, oneC]
end
@[go_sem ↓] theorem obV_zero {ob : Ob} {G : Ob → Prop} : obV (some ob :: σ) 0 G = G ob := (rfl)
@[go_sem ↓] theorem obV_succ {x : Option Ob} {o : Nat} {G : Ob → Prop} : obV (x :: σ) (o + 1) G = obV σ o G := by simp [obV, atK]
@[go_sem ↓] theorem adr_i {z off : Nat} : adr z 0 off = off := by simp [adr]
section
variable {G : List V → Prop} {H : PV → Prop} {J : List PV → Prop} {v : Value} {z : Nat} {l : List (List PV)} {o i off len f : Nat} {us : List V} {u : V}
@[go_sem ↓] theorem clK_agg : clK (.agg us) G = G us := (rfl)
@[go_sem ↓] theorem clK_lit : clK (.lit v) G = G [.lit v] := (rfl)
@[go_sem ↓] theorem clK_row : clK (.row z l) G = G [.row z l] := (rfl)
@[go_sem ↓] theorem pvK_lit : pvK (.lit v) H = H (.lit v) := (rfl)
@[go_sem ↓] theorem pvK_row : pvK (.row z l) H = H (.row z l) := (rfl)
@[go_sem ↓] theorem pvsK_nil : pvsK [] J = J [] := (rfl)
@[go_sem ↓] theorem pvsK_cons : pvsK (u :: us) J = pvK u fun p => pvsK us fun ps => J (p :: ps) := (rfl)
@[go_sem ↓] theorem ofP_lit : V.ofP (.lit v) = .lit v := (rfl)
@[go_sem ↓] theorem ofP_row : V.ofP (.row z l) = .row z l := (rfl)

variable {q : Option Nat} {el : List PV} {cs : List V} {KK : Ob → Prop} {ks : KS} {z' : Nat}
@[go_sem ↓] theorem rdV_ref : rdV (.ref o z i off) σ q F = obV σ o fun ob => rdO ob z i off q F := (rfl)
@[go_sem ↓] theorem rdV_rref : rdV (.rref z l i off) σ q F = atK l i fun e => rdP e off q F := (rfl)
@[go_sem ↓] theorem rdV_lay {g m : Nat} : rdV (.lit (.pointer (some ⟨g, m, none⟩))) σ none F = layK g m fun v => F true (.lit v) := (rfl)
@[go_sem ↓] theorem rdO_cell : rdO (.cells us) z i off none F = atK us (adr z i off) fun u => F true u := (rfl)
@[go_sem ↓] theorem rdO_cells {m : Nat} : rdO (.cells us) z i off (some m) F = tkK us (adr z i off) m fun r => F true (.agg r) := (rfl)
@[go_sem ↓] theorem rdO_row : rdO (.row z l) z i off q F = atK l i fun e => rdP e off q F := by simp [rdO]
@[go_sem ↓] theorem rdP_none : rdP el off none F = atK el off fun p => F true (V.ofP p) := (rfl)
@[go_sem ↓] theorem rdP_some {m : Nat} : rdP el off (some m) F = tkK el off m fun r => F true (.agg (r.map V.ofP)) := (rfl)
@[go_sem ↓] theorem wrV_ref : wrV (.ref o z i off) σ cs ks = obV σ o fun ob => wrO ob z i off cs fun ob' => ks true (σ.set o (some ob')) := (rfl)
@[go_sem ↓] theorem wrO_cells : wrO (.cells us) z i off cs KK = wrK us (adr z i off) cs fun l' => KK (.cells l') := (rfl)
@[go_sem ↓] theorem wrO_row : wrO (.row z l) z i off cs KK = atK l i fun e => pvsK cs fun ps => wrK e off ps fun e' => KK (.row z (l.set i e')) := by simp [wrO]
@[go_sem ↓] theorem newO_eq {ob : Ob} {G : Nat → St → Prop} : newO σ ob G = G σ.length (σ ++ [some ob]) := (rfl)
@[go_sem ↓] theorem boxV_eq : boxV u σ kv = clK u fun l => newO σ (.cells l) fun o σ' => kv true (.ref o 0 0 0) σ' := (rfl)
@[go_sem ↓] theorem bdoK_none {d m : Nat} {G : Nat → Prop} : bdoK none d m G = G d := (rfl)
@[go_sem ↓] theorem bdoK_some' {d m : Nat} {G : Nat → Prop} : bdoK (some u) d m G = bdK u m G := (rfl)
@[go_sem ↓] theorem bdK_int {kd : IntKind} {a : Int} {m : Nat} {G : Nat → Prop} (h : 0 ≤ a ∧ a ≤ m) : bdK (.lit (.int kd a)) m G = G a.toNat := by simp [bdK, h]
@[go_sem ↓ high] theorem bdK_nat {kd : IntKind} {a : Nat} {m : Nat} {G : Nat → Prop} (h : a ≤ m) : bdK (.lit (.int kd (a : Int))) m G = G a := by simp [bdK, h]
variable {R' : List (List PV) → Prop} {β : Type} {L : List β} {f : β → List PV}
@[go_sem ↓] theorem rowK_row : rowK (.row z l) σ z R' = R' l := by simp [rowK]
@[go_sem ↓] theorem rowK_sl : rowK (.sl o z off len) σ z R' = obV σ o fun ob => rowO ob z off len R' := by simp [rowK]
@[go_sem ↓ high] theorem rowO_map (h : off + len ≤ L.length) : rowO (.row z (L.map f)) z off len R' = R' (((L.drop off).take len).map f) := by simp [rowO, h, List.map_take, List.map_drop]
@[go_sem ↓ high] theorem rowO_1 {e1 : List PV} : rowO (.row z [e1]) z 0 1 R' = R' [e1] := by simp [rowO]
@[go_sem ↓] theorem lenV_row : lenV (.row z l) F = F true (.lit (.int .i64 l.length)) := (rfl)
@[go_sem ↓ high] theorem lenV_rowm : lenV (.row z (L.map f)) F = F true (.lit (.int .i64 L.length)) := by simp [lenV]
@[go_sem ↓] theorem lenV_sl : lenV (.sl o z off len) F = F true (.lit (.int .i64 len)) := (rfl)
variable {yb : Nat} {m : List (List PV)} {M : List β}
@[go_sem ↓] theorem apdU_sl : apdU false z yb (.sl o z 0 len) m σ kv = obV σ o fun ob => apdO ob z yb len o m σ kv := by simp [apdU]
@[go_sem ↓] theorem apdO_of (h : l.length = len ∧ (len + m.length) * 2 * yb ≤ 281474976710656) : apdO (.row z l) z yb len o m σ kv = newO (σ.set o none) (.row z (l ++ m)) fun o' σ' => kv true (.sl o' z 0 (len + m.length)) σ' := by simp [apdO, h]
@[go_sem ↓ high] theorem apdO_map (h : L.length = len ∧ (len + M.length) * 2 * yb ≤ 281474976710656) : apdO (.row z (L.map f)) z yb len o (M.map f) σ kv = newO (σ.set o none) (.row z ((L ++ M).map f)) fun o' σ' => kv true (.sl o' z 0 (len + M.length)) σ' := by simp [apdO, h]
@[go_sem ↓ high] theorem apdO_empm (h : M.length * 2 * yb ≤ 281474976710656) : apdO (.row z []) z yb 0 o (M.map f) σ kv = newO (σ.set o none) (.row z (M.map f)) fun o' σ' => kv true (.sl o' z 0 M.length) σ' := by simp [apdO, h]
@[go_sem ↓] theorem mslU_of {C : List Value} {a b : Int} (h : 0 ≤ a ∧ a = b ∧ a * yb ≤ 140737488355328 ∧ a < 4611686018427387904 ∧ 0 < yb) (hC : C.length = z) : mslU z yb C (.lit (.int .i64 a)) (.lit (.int .i64 b)) σ kv = allOne C (newO σ (.row z (zrow C a.toNat)) fun o σ' => kv true (.sl o z 0 a.toNat) σ') := by
 unfold mslU
 simp only
 rw [if_pos ⟨h.1, h.2.1, h.2.2.1, h.2.2.2.1, h.2.2.2.2, hC⟩]
def ie (kd : IntKind) (x : Int) : List PV := [.lit (.int kd x)]
section
variable {s t : TypeId}
end
def be (b : Bool) : List PV := [.lit (.bool b)]
@[go_sem] theorem ie_eq {kd : IntKind} {x : Int} : ie kd x = [.lit (.int kd x)] := (rfl)
@[go_sem ↓ high] theorem atK_mapi {kd : IntKind} {A : List Int} {G : List PV → Prop} (h : i < A.length) : atK (A.map (ie kd)) i G = G [.lit (.int kd (A.getD i 0))] := atK_map h
theorem set_ie {kd : IntKind} {A : List Int} {x : Int} : (A.map (ie kd)).set i [PV.lit (.int kd x)] = (A.set i x).map (ie kd) := by rw [List.map_set]; rfl
@[go_sem ↓] theorem zrow_int {kd : IntKind} {x : Int} {m : Nat} : zrow [.int kd x] m = (List.replicate m x).map (ie kd) := by simp [zrow, ie]
@[go_sem ↓ high] theorem wrO_mapi {kd : IntKind} {A : List Int} {x : Int} (h : i < A.length) : wrO (.row 1 (A.map (ie kd))) 1 i 0 [.lit (.int kd x)] KK = KK (.row 1 ((A.set i x).map (ie kd))) := by
 rw [wrO_row, atK_mapi h]
 simp only [pvsK, pvK]
 rw [wrK_one (by simp)]
 simp only [List.set_cons_zero]
 rw [set_ie]
end

section
variable {q : Option Nat} {u v : V} {ks : KS} {o z i off len j m y : Nat} {l : List (List PV)} {us : List V} {ag : Bool} {kd : IntKind} {a : Int} {et ex : TypeId} {β : Type} {L : List β} {f : β → List PV}
theorem ldV_of (h : agOf P t = some q) : ldV P t u σ F = rdV u σ q F := by simp [ldV, h]
theorem stV_of (h : szOf P t = some (m + 1)) : stV P t u v σ ks = clK v fun c => lenK c (m + 1) (wrV u σ c ks) := by simp [stV, h]
theorem fadV_ref {x : Nat} (h : fdOf P t j = some (x, ag, m)) : fadV P t (.ref o z i off) j F = F true (.ref o z i (off + x)) := by simp [fadV, h]
theorem fldV_at {x : Nat} (h : fdOf P t j = some (x, false, m)) : fldV P t (.agg us) j F = atK us x fun v => F true v := by simp [fldV, h]
theorem idxV_sl (h : elOf P t = some (et, z)) (hm : 0 ≤ a ∧ a < len) : idxV P t (.sl o z off len) (.lit (.int kd a)) F = F true (.ref o z (off + a.toNat) 0) := by simp [idxV, h, inK, hm]
theorem idxV_sln (h : elOf P t = some (et, z)) (hm : m < len) : idxV P t (.sl o z off len) (.lit (.int kd (m : Int))) F = F true (.ref o z (off + m) 0) := by simp [idxV, h, inK, hm]
theorem idxV_rown (h : elOf P t = some (et, z)) (hz : 0 < z) (hm : m < l.length) : idxV P t (.row z l) (.lit (.int kd (m : Int))) F = F true (.rref z l m 0) := by simp [idxV, h, inK, hm, hz]
theorem idxV_rowm (h : elOf P t = some (et, z)) (hz : 0 < z) (hm : 0 ≤ a ∧ a < L.length) : idxV P t (.row z (L.map f)) (.lit (.int kd a)) F = F true (.rref z (L.map f) a.toNat 0) := by simp [idxV, h, inK, hm, hz]
theorem idxV_lay {g : Nat} (h : arOf P t = some (len, et, 1)) (hm : m < len) : idxV P t (.lit (.pointer (some ⟨g, 0, none⟩))) (.lit (.int kd (m : Int))) F = F true (.lit (.pointer (some ⟨g, m, none⟩))) := by simp [idxV, h, inK, hm]
theorem ixvV_str {s : ByteArray} (h : isStr P t = true) (hm : 0 ≤ a ∧ a < s.size) : ixvV P t (.lit (.string s)) (.lit (.int kd a)) F = F true (.lit (.int .u8 (strAt s a.toNat))) := by simp [ixvV, h, inK, hm]
variable {lo hi mx : Option V}
@[go_sem ↓] theorem slcS_ref {lo hi : Option V} : slcS P t (.ref o 0 0 0) lo hi none σ F = slaV P t o lo hi σ F := (rfl)
@[go_sem ↓] theorem slcS_sl {lo hi mx : Option V} : slcS P t (.sl o z off len) lo hi mx σ F = slcV P t (.sl o z off len) lo hi mx F := by cases mx <;> rfl
@[go_sem ↓] theorem slcS_row {lo hi mx : Option V} {ll : List (List PV)} : slcS P t (.row z ll) lo hi mx σ F = slcV P t (.row z ll) lo hi mx F := by cases mx <;> rfl
@[go_sem ↓] theorem slcS_lit {lo hi mx : Option V} {v : Value} : slcS P t (.lit v) lo hi mx σ F = slcV P t (.lit v) lo hi mx F := by cases mx <;> rfl
theorem slaV_of {lo hi : Option V} (h : arOf P t = some (n, et, z)) {ob : Ob} (hob : σ[o]? = some (some ob)) (h0 : 0 < n * z ∧ n * z ≤ obN ob) : slaV P t o lo hi σ F = bdoK hi n n fun h => bdoK lo 0 h fun l => F true (.sl o z l (h - l)) := by
 unfold slaV obV atK
 rw [h, hob]
 simp [h0]
theorem slcV_sl (h : elOf P t = some (et, z)) : slcV P t (.sl o z off len) lo hi none F = bdoK hi len len fun h => bdoK lo 0 h fun l => F true (.sl o z (off + l) (h - l)) := by simp [slcV, slcA, h]
theorem slcV_rowm (h : elOf P t = some (et, z)) : slcV P t (.row z (L.map f)) lo hi none F = bdoK hi L.length L.length fun h => bdoK lo 0 h fun x => F true (.row z (((L.take h).drop x).map f)) := by simp [slcV, slcA, h, List.map_take, List.map_drop]
theorem lenB_row (h : (elOf P t).isSome = true) : bltV P e .len [t] [.row y l] σ kv = lenV (.row y l) fun τ v => kv τ v σ := by
 obtain ⟨ez, h⟩ := Option.isSome_iff_exists.1 h
 simp [bltV, lenW, h]
theorem lenB_sl (h : (elOf P t).isSome = true) : bltV P e .len [t] [.sl o y off len] σ kv = lenV (.sl o y off len) fun τ v => kv τ v σ := by
 obtain ⟨ez, h⟩ := Option.isSome_iff_exists.1 h
 simp [bltV, lenW, h]
theorem lenB_str {s : List UInt8} (h : isStr P t = true) : bltV P e .len [t] [.lit (.string (bs s))] σ kv = kv true (.lit (.int .i64 (s.length : Int))) σ := by
 have e : (bs s).size = s.length := by simp [bs, ByteArray.size]
 simp [bltV, lenW, h, e]
theorem slcV_str {s : List UInt8} (h : isStr P t = true) : slcV P t (.lit (.string (bs s))) lo hi none F = bdoK hi s.length s.length fun h => bdoK lo 0 h fun x => F true (.lit (.string (bs ((s.take h).drop x)))) := by
 have e : (bs s).size = s.length := by simp [bs, ByteArray.size]
 have e2 : ∀ x h, (bs s).extract x h = bs ((s.take h).drop x) := fun x h => by
  unfold bs ByteArray.extract
  apply ByteArray.ext
  simp [ByteArray.copySlice, List.drop_take]
 simp only [slcV, h, Option.isNone_none, and_self, if_true, e, e2]
theorem ixvV_bs {s : List UInt8} (h : isStr P t = true) (hm : 0 ≤ a ∧ a < s.length) : ixvV P t (.lit (.string (bs s))) (.lit (.int kd a)) F = F true (.lit (.int .u8 ((s.getD a.toNat 0).toNat : Int))) := by
 have e : (bs s).size = s.length := by simp [bs, ByteArray.size]
 have e2 : strAt (bs s) a.toNat = (s.getD a.toNat 0).toNat := by simp only [strAt, bs]
 simp only [ixvV, h, if_true, inK, e, if_pos hm, e2]
theorem cvsV_num (h : (knOf P s).isSome = true) : cvsV P s t u σ F = cvtV P s t u F := by
 unfold cvsV
 rw [if_neg]
 rintro ⟨h1, _⟩
 unfold knOf at h
 unfold isByt at h1
 cases hq : P.underlying s with
 | none => rw [hq] at h1; cases h1
 | some d => rw [hq] at h h1; cases d <;> first | (simp at h; done) | (simp at h1; done)
theorem cvsV_byt (h1 : isByt P s = true) (h2 : isStr P t = true) : cvsV P s t u σ F = rowK u σ 1 fun l => bytK l fun b => F true (.lit (.string (bs b))) := by
 unfold cvsV
 rw [if_pos ⟨h1, h2⟩]
@[go_sem ↓] theorem litI_eql {r : Bool} : litI (eqI .eql r) F = F true (.lit (.bool r)) := by cases r <;> rfl
@[go_sem ↓] theorem binV_bsadd {s r : List UInt8} (h : s.length + r.length ≤ 9223372036854775807) : binV P .add t (.lit (.string (bs s))) (.lit (.string (bs r))) F = F true (.lit (.string (bs (s ++ r)))) := by
 have e : ∀ s, (bs s).size = s.length := fun s => by simp [bs, ByteArray.size]
 have e2 : bs s ++ bs r = bs (s ++ r) := by
  apply ByteArray.ext
  simp [bs]
 simp only [binV, strI, e, if_pos h, litI, e2]
@[go_sem ↓] theorem binV_bseql {s r : List UInt8} : binV P .eql t (.lit (.string (bs s))) (.lit (.string (bs r))) F = F true (.lit (.bool (decide (s = r)))) := by
 simp only [binV, strI, litI_eql, bs]
 rfl
@[go_sem ↓] theorem bytK_map {N : List Int} {G : List UInt8 → Prop} : bytK (N.map (ie .u8)) G = G (N.map fun n => UInt8.ofNat n.toNat) := by
 induction N generalizing G with
 | nil => rfl
 | cons n N ih => exact ih
theorem bs_lit {s : List UInt8} : ByteArray.mk s.toArray = bs s := (rfl)
attribute [go_sem] bs_lit Bool.and_true Bool.true_and Bool.and_false Bool.false_and Bool.not_true Bool.not_false
theorem apdV_of {C : List Value} (h : elOf P t = some (et, z)) (hx : elOf P s = some (ex, z)) (hC : zeOf P et = some C) (hy : byOf P et = some y) (h0 : 0 < y) (hz : C.length = z) : apdV P e t s u v σ kv = rowK v σ z fun m => apdU e z y u m σ kv := by simp [apdV, h, hx, hC, hy, h0, hz]
theorem mslV_of {C : List Value} (h : elOf P t = some (et, z)) (hC : zeOf P et = some C) (hy : byOf P et = some y) : mslV P t u v σ kv = mslU z y C u v σ kv := by simp [mslV, h, hC, hy]
theorem alcV_of {C : List Value} (h : zeOf P t = some C) : alcV P t σ kv = allOne C (newO σ (.cells (C.map V.lit)) fun o σ' => kv true (.ref o 0 0 0) σ') := by simp [alcV, h]
theorem bldV_of {C : List Value} {ps : List (Nat × V)} (h : zeOf P t = some C) (hg : isAg P t = true) (hs : szs P t = true) : bldV P t ps F = allOne C (fillK (plOf P t) ps (C.map V.lit) fun l => F true (.agg l)) := by simp [bldV, h, hg, hs]
theorem fillK_step {pl : Nat → Option (Nat × Nat)} {r : List (Nat × V)} {us : List V} {G : List V → Prop} {x : Nat} (h : pl j = some (x, m)) : fillK pl ((j, u) :: r) us G = clK u fun c => lenK c m (wrK us x c fun l' => fillK pl r l' G) := by simp [fillK, h]
@[go_sem ↓] theorem fillK_nil {pl : Nat → Option (Nat × Nat)} {us : List V} {G : List V → Prop} : fillK pl [] us G = G us := (rfl)
theorem bslV_of {ps : List (Nat × V)} (h : elOf P t = some (et, z)) (hz : (zeOf P et).isSome = true ∧ 0 < z ∧ n * z ≤ 16777216) : bslV P t n ps σ kv = prtK z 0 ps fun l => lenK l n (newO σ (.row z l) fun o σ' => kv true (.sl o z 0 n) σ') := by simp [bslV, h, hz.1, hz.2.1, hz.2.2]
@[go_sem ↓] theorem prtK_nil {G : List (List PV) → Prop} : prtK z j [] G = G [] := (rfl)
@[go_sem ↓] theorem prtK_cons {r : List (Nat × V)} {G : List (List PV) → Prop} : prtK z j ((j, u) :: r) G = clK u fun c => lenK c z (pvsK c fun e => prtK z (j + 1) r fun es => G (e :: es)) := by simp [prtK]
end

@[go_sem] theorem okN_nil {o : Nat} : okN [] o = true := (rfl)
@[go_sem] theorem okN_some {p o : Nat} {π : Pi} : okN (some p :: π) o = if p = o then false else okN π o := by
 unfold okN
 by_cases h : p = o
 ·
  subst h; simp
 ·
  rw [if_neg h]
  have : ¬ (some o = some p) := fun e => h (Option.some.inj e).symm
  simp [this]
@[go_sem] theorem cnt_cons {p o : Nat} {F : List Nat} : List.contains (p :: F) o = if p = o then true else List.contains F o := by
 by_cases h : p = o
 ·
  subst h; simp
 ·
  rw [if_neg h]
  have : ¬ o = p := fun e => h e.symm
  simp [this]
section
variable {ok : Nat → Bool} {u : V} {m o z z' i i' off off' len z'' : Nat} {l l' L : List (List PV)} {us : List V} {ps : List PV} {p : PV} {f : V → PV → Prop} {v v' : Value}
@[go_sem ↓] theorem tPn_lit : tPn ok σ m (.lit v) (.lit v') = (v' = v) := by cases m <;> rfl
@[go_sem ↓] theorem tPs_nil : tPs f [] [] = True := (rfl)
@[go_sem ↓] theorem tPs_cons : tPs f (u :: us) (p :: ps) = (f u p ∧ tPs f us ps) := (rfl)
@[go_sem ↓] theorem tO_cellsR : tO f z [ps] i off z' i' off' (.cells us) = (z = ps.length ∧ i = 0 ∧ off = adr z' i' off' ∧ tPs f us ps) := (rfl)
@[go_sem ↓] theorem tR_row : tR f z off len l (.row z'' L) = mRow (.row z'' L) z off len l := (rfl)
end
attribute [go_sem] V.ofP mV mVs mO mSt mG mRow renV renL renO renX rnm renS mrg kill behd vpi vcnt padN
end

def NextV {X : Type} (k : Nat) (st : X → Vg × St) (inv : X → Prop) (m : X → Nat) (x : X) (ρ : Vg) (σ : St) : Prop := ∃ x' π, Emb k π (st x').1 (st x').2 ρ σ ∧ inv x' ∧ m x' < m x
theorem NextV_of {X : Type} {k : Nat} {st : X → Vg × St} {inv : X → Prop} {m : X → Nat} {x : X} {ρ : Vg} {σ : St} (x' : X) (π : Pi) (h1 : (ndl π (st x').2 && kfix k π) = true) (h2 : mSt (okN π) π σ (st x').2 π) (h3 : mG (okN π) π σ (st x').1 ρ) (hi : inv x') (hm : m x' < m x) : NextV k st inv m x ρ σ := ⟨x', π, ⟨h1, h2, h3⟩, hi, hm⟩
theorem LoopV_of {X : Type} {k : Nat} {body : Vg → St → PostV → Prop} {ρ : Vg} {σ : St} {Q : PostV} (st : X → Vg × St) (inv : X → Prop) (m : X → Nat) (x₀ : X) (π : Pi) (h1 : (ndl π (st x₀).2 && kfix k π) = true) (h2 : mSt (okN π) π σ (st x₀).2 π) (h3 : mG (okN π) π σ (st x₀).1 ρ) (hi : inv x₀)
  (round : ∀ x, inv x → body (st x).1 (st x).2 (thenV (fun _ => NextV k st inv m x) Q)) : LoopV k body ρ σ Q := by
 refine ⟨fun c ρ σ => ∃ x, c = m x ∧ (ρ, σ) = st x ∧ inv x, ⟨_, π, (st x₀).1, (st x₀).2, ⟨h1, h2, h3⟩, x₀, rfl, rfl, hi⟩, ?_⟩
 rintro c ρ σ ⟨x, rfl, e, hx⟩
 have e1 : (st x).1 = ρ := by rw [← e]
 have e2 : (st x).2 = σ := by rw [← e]
 have := round x hx
 rw [e1, e2] at this
 have e : (thenV (fun _ => NextV k st inv m x) Q) = thenV (fun _ ρ' σ' => ∃ m' π ρ₀ σ₀, m' < m x ∧ Emb k π ρ₀ σ₀ ρ' σ' ∧ ∃ y, m' = m y ∧ (ρ₀, σ₀) = st y ∧ inv y) Q := by
  funext τ e ρ σ
  cases e with
  | normal =>
   refine propext ⟨?_, ?_⟩
   ·
    rintro ⟨x', π, h1, h2, h3⟩; exact ⟨_, π, _, _, h3, h1, x', rfl, rfl, h2⟩
   ·
    rintro ⟨_, π, ρ₀, σ₀, h3, h1, x', rfl, e, h2⟩
    refine ⟨x', π, ?_, h2, h3⟩
    rw [← e]
    exact h1
  | _ => rfl
 rw [← e]
 exact this
theorem EndV_of {k : Nat} {Q : V → St → Prop} {u : V} {s : St} (π : Pi) (u₀ : V) (s₀ : St) (h1 : (ndl π s₀ && kfix k π) = true) (h2 : mSt (okN π) π s s₀ π) (h3 : mV (okN π) π s u₀ u) (hq : Q u₀ s₀) : EndV k Q u s := ⟨π, u₀, s₀, ⟨h1, h2, h3⟩, hq⟩
section
variable {P : Program}
theorem fn1_of {f : FuncId} {fn : Func} {c : Code} {vs : List V} {σ : St} {r : V} {s : St} (pl : Plans) (hm : P.follows .mixedOrders = true) (hcf : ∀ (args : Array Value) (w : World), (callFunc f args).run P w = .ok (.enter f args) w)
  (hf : P.funcs[f]? = some fn) (hb : fn.body = some c) (hc : chk fn.ntmps pl c = true) (hs : Nat.ble vs.length fn.ntmps = true) (rs : List ResultVar) (hr : fn.results.toList = rs)
  (h : ∀ Q : V → St → Prop, Q r s → denV true P σ.length pl c (rgV 0 vs) σ (retPV P rs (EndV σ.length Q))) : Fn1 P f vs σ r s :=
 fn_of pl hm hcf hf hb hc hs rs hr (h _ ⟨rfl, rfl⟩)
theorem callV1 {e : Bool} {f : FuncId} {vs vs₀ : List V} {σ σ₀ s : St} {r : V} {K : KV} (π : Pi) (F : List Nat) (spec : Fn1 P f vs₀ σ₀ r s)
  (h1 : (ndp π && π.all (fun p => match p with | some p => decide (p < σ.length) && !F.contains p | none => true)) = true) (h2 : mSt F.contains π σ σ₀ π) (h3 : mVs F.contains π σ vs₀ vs) (he : e = true → σ₀ = [])
  (hk : K true (renV (rnm (vpi σ.length π) (σ.length + vcnt π)) r) (behd π F σ s)) : callV P e f vs σ K :=
 callV_of π F spec ⟨h1, h2, h3⟩ he fun u s ⟨h4, h5⟩ => by rw [h4, h5]; exact hk
def pln : V → Bool
 | .lit _ => true
 | .row _ _ => true
 | .xrow _ _ => true
 | .rref _ _ _ _ => true
 | .agg l => plnL l
 | .tup l => plnL l
 | .clo _ l => plnL l
 | _ => false
where plnL : List V → Bool
 | [] => true
 | v :: vs => pln v && plnL vs
mutual
theorem mV_pln {ok : Nat → Bool} {π : Pi} {σ : St} : ∀ {v : V}, pln v = true → mV ok π σ v v
 | .lit _, _ => by simp [mV]
 | .row _ _, _ => by simp [mV]
 | .xrow _ _, _ => by simp [mV]
 | .rref _ _ _ _, _ => by simp [mV]
 | .agg l, h => by simp only [mV]; exact mVs_pln h
 | .tup l, h => by simp only [mV]; exact mVs_pln h
 | .clo f l, h => by simp only [mV]; exact ⟨trivial, mVs_pln h⟩
 | .ref _ _ _ _, h => by simp [pln] at h
 | .sl _ _ _ _, h => by simp [pln] at h
 | .mref _, h => by simp [pln] at h
theorem mVs_pln {ok : Nat → Bool} {π : Pi} {σ : St} : ∀ {vs : List V}, pln.plnL vs = true → mVs ok π σ vs vs
 | [], _ => by simp [mVs]
 | v :: vs, h => by
  simp only [pln.plnL, Bool.and_eq_true] at h
  simp only [mVs]
  exact ⟨mV_pln h.1, mVs_pln h.2⟩
end
mutual
theorem renV_pln {f : Nat → Nat} : ∀ {v : V}, pln v = true → renV f v = v
 | .lit _, _ => rfl
 | .row _ _, _ => rfl
 | .xrow _ _, _ => rfl
 | .rref _ _ _ _, _ => rfl
 | .agg l, h => by simp only [renV]; rw [renL_pln h]
 | .tup l, h => by simp only [renV]; rw [renL_pln h]
 | .clo f l, h => by simp only [renV]; rw [renL_pln h]
 | .ref _ _ _ _, h => by simp [pln] at h
 | .sl _ _ _ _, h => by simp [pln] at h
 | .mref _, h => by simp [pln] at h
theorem renL_pln {f : Nat → Nat} : ∀ {vs : List V}, pln.plnL vs = true → renL f vs = vs
 | [], _ => rfl
 | v :: vs, h => by
  simp only [pln.plnL, Bool.and_eq_true] at h
  simp only [renL, renV_pln h.1, renL_pln h.2]
end
theorem callV0 {e : Bool} {f : FuncId} {vs : List V} {σ : St} {r : V} {K : KV} (spec : Fn1 P f vs [] r []) (hv : pln.plnL vs = true) (hr : pln r = true) (hk : K true r σ) : callV P e f vs σ K := by
 refine callV1 (σ₀ := []) [] [] spec rfl (by simp [mSt]) (mVs_pln hv) (fun _ => rfl) ?_
 rw [renV_pln hr]
 simpa [behd, padN, vcnt, vpi, kill, mrg, renS] using hk
end
end Go.Vx

