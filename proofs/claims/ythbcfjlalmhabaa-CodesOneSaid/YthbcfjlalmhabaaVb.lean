import Derived.Test.YthbcfjlalmhabaaVa
/-! What the operations do to values without addresses. -/
namespace Go.Vx
open Go.Eng
set_option linter.unusedSimpArgs false
set_option linter.unusedVariables false

abbrev FV := Bool → V → Prop
abbrev KV := Bool → V → St → Prop
abbrev KS := Bool → St → Prop

/-! ### Lists, read and written -/
def atK {α : Type} (l : List α) (i : Nat) (F : α → Prop) : Prop := match l[i]? with | some x => F x | none => False
def tkK {α : Type} (l : List α) (a n : Nat) (F : List α → Prop) : Prop := if a + n ≤ l.length then F ((l.drop a).take n) else False
def wrK {α : Type} (l : List α) (a : Nat) (c : List α) (F : List α → Prop) : Prop := if a + c.length ≤ l.length then F (l.take a ++ c ++ l.drop (a + c.length)) else False
def lenK {α : Type} (c : List α) (n : Nat) (p : Prop) : Prop := if c.length = n then p else False
def obV (σ : St) (o : Nat) (F : Ob → Prop) : Prop := atK σ o fun x => match x with | some ob => F ob | none => False
def adr (z i off : Nat) : Nat := i * z + off
def allOne (C : List Value) (p : Prop) : Prop := if C.all oneC = true then p else False

def clK (u : V) (F : List V → Prop) : Prop := match u with
  | .agg l => F l
  | .tup _ => False
  | u => F [u]
def pvK (u : V) (F : PV → Prop) : Prop := match u with
  | .lit v => F (.lit v)
  | .row z l => F (.row z l)
  | .xrow z l => F (.row z l)
  | _ => False
def pvsK : List V → (List PV → Prop) → Prop
  | [], F => F []
  | u :: us, F => pvK u fun p => pvsK us fun ps => F (p :: ps)

/-! ### Types -/
def agOf (P : Program) (t : TypeId) : Option (Option Nat) := match P.underlying t with
  | some d => bif aggD d then (szOf P t).map some else some none
  | none => none
def elOf (P : Program) (t : TypeId) : Option (TypeId × Nat) := match P.underlying t with
  | some (.slice e) => (szOf P e).map fun z => (e, z)
  | _ => none
def arOf (P : Program) (t : TypeId) : Option (Nat × TypeId × Nat) := match P.underlying t with
  | some (.array n e) => (szOf P e).map fun z => (n, e, z)
  | _ => none
/-- A field: its place, whether it is of cells, how many. -/
def fdOf (P : Program) (t : TypeId) (j : Nat) : Option (Nat × Bool × Nat) := match P.underlying t with
  | some (.struct fs) => (match fs[j]? with
    | some f => (match P.underlying f.type, szOf P f.type with
      | some d, some (z + 1) => some (f.offset, aggD d, z + 1)
      | _, _ => none)
    | none => none)
  | _ => none
def knOf (P : Program) (t : TypeId) : Option IntKind := match P.underlying t with
  | some (.int k) => some k
  | _ => none
def isBool (P : Program) (t : TypeId) : Bool := match P.underlying t with
  | some .bool => true
  | _ => false
def isPtr (P : Program) (t : TypeId) : Bool := match P.underlying t with
  | some (.pointer _) => true
  | _ => false
def isSlc (P : Program) (t : TypeId) : Bool := match P.underlying t with
  | some (.slice _) => true
  | _ => false
def isStr (P : Program) (t : TypeId) : Bool := match P.underlying t with
  | some .string => true
  | _ => false

/-! ### Operands -/
def lkV (ρ : Vg) (t : Nat) (K : V → Prop) : Prop := match fdV ρ t with | some v => K v | none => False
def cstV (v : Value) (K : V → Prop) : Prop := match v with
  | .agg cs => allOne cs.toList (K (.agg (cs.toList.map V.lit)))
  | .tuple _ => False
  | v => K (.lit v)
def evV (ρ : Vg) (x : Operand) (K : V → Prop) : Prop := match x with
  | .tmp t => lkV ρ t K
  | .const v => cstV v K
  | .global g => K (.lit (.pointer (some ⟨g, 0, none⟩)))
  | .func f => K (.clo f [])
def evsV (ρ : Vg) : List Operand → (List V → Prop) → Prop
  | [], K => K []
  | x :: xs, K => evV ρ x fun v => evsV ρ xs fun vs => K (v :: vs)
def evpV (ρ : Vg) : List (Nat × Operand) → (List (Nat × V) → Prop) → Prop
  | [], K => K []
  | (i, x) :: xs, K => evV ρ x fun v => evpV ρ xs fun vs => K ((i, v) :: vs)
def evoV (ρ : Vg) : Option Operand → (Option V → Prop) → Prop
  | none, K => K none
  | some x, K => evV ρ x fun v => K (some v)

/-! ### Numbers -/
def intI (op : BinOp) (i : IntKind) (a b : Int) : Option Value := match op with
  | .add => some (.int i (i.wrap (a + b)))
  | .sub => some (.int i (i.wrap (a - b)))
  | .mul => some (.int i (i.wrap (a * b)))
  | .quo => if b = 0 then none else some (.int i (i.wrap (a.tdiv b)))
  | .rem => if b = 0 then none else some (.int i (a.tmod b))
  | .lss => some (.bool (decide (a < b)))
  | .leq => some (.bool (decide (a ≤ b)))
  | .gtr => some (.bool (decide (b < a)))
  | .geq => some (.bool (decide (b ≤ a)))
  | .eql => some (.bool (decide (a = b)))
  | .neq => some (.bool (!decide (a = b)))
  | .and => some (.int i (bitK .and i a b))
  | .or => some (.int i (bitK .or i a b))
  | .xor => some (.int i (bitK .xor i a b))
  | .andNot => some (.int i (bitK .andNot i a b))
  | _ => none
def shI (op : BinOp) (i : IntKind) (a b : Int) : Option Value := match op with
  | .shl => if 0 ≤ b then some (.int i (i.wrap (a * 2 ^ min b.toNat i.bits))) else none
  | .shr => if 0 ≤ b then some (.int i (a / 2 ^ min b.toNat i.bits)) else none
  | _ => none
def isSh (op : BinOp) : Bool := match op with | .shl | .shr => true | _ => false
def litI (x : Option Value) (F : FV) : Prop := match x with | some v => F true (.lit v) | none => False
def isEq (op : BinOp) : Option Bool := match op with | .eql => some true | .neq => some false | _ => none
def boolI (op : BinOp) (a b : Bool) : Option Value := (isEq op).map fun e => .bool (e == (a == b))
def nilI (op : BinOp) (same : Bool) : Option Value := (isEq op).map fun e => .bool (e == same)
/-- Cells of numbers and truths, one by one: are they the same? -/
def eqLs : List V → List V → Option Bool
  | [], [] => some true
  | .lit (.int i a) :: l, .lit (.int j b) :: m => if i = j then (eqLs l m).map fun r => decide (a = b) && r else none
  | .lit (.bool a) :: l, .lit (.bool b) :: m => (eqLs l m).map fun r => (a == b) && r
  | _, _ => none
/-- Structs of numbers and truths alone. -/
def flOf (P : Program) (t : TypeId) (n : Nat) : Bool := false

/-- A slice against nil: what is empty may be nil, or not. -/
def nilB (op : BinOp) (emp : Bool) (F : FV) : Prop := bif emp then litI (nilI op true) F ∧ litI (nilI op false) F else litI (nilI op false) F
def binV (P : Program) (op : BinOp) (t : TypeId) (u v : V) (F : FV) : Prop := match u, v with
  | .lit (.int i a), .lit (.int j b) => if isSh op = true then litI (shI op i a b) F else if i = j then litI (intI op i a b) F else False
  | .lit (.bool a), .lit (.bool b) => if isBool P t = true then litI (boolI op a b) F else False
  | .lit (.pointer a), .lit (.pointer none) => if isPtr P t = true then litI (nilI op a.isNone) F else False
  | .ref _ _ _ _, .lit (.pointer none) => if isPtr P t = true then litI (nilI op false) F else False
  | .lit (.slice none 0 0), .lit (.slice none 0 0) => if isSlc P t = true then litI (nilI op true) F else False
  | .row z l, .lit (.slice none 0 0) => if isSlc P t = true ∧ 0 < z then nilB op l.isEmpty F else False
  | .sl _ _ _ len, .lit (.slice none 0 0) => if isSlc P t = true then nilB op (decide (len = 0)) F else False
  | _, _ => False
def unoV (op : UnOp) (u : V) (F : FV) : Prop := match op, u with
  | .not, .lit (.bool b) => F true (.lit (.bool !b))
  | .neg, .lit (.int i a) => F true (.lit (.int i (i.wrap (0 - a))))
  | .xor, .lit (.int i a) => F true (.lit (.int i (bitK .xor i (if i.signed then -1 else i.max) a)))
  | _, _ => False
def cvtV (P : Program) (s t : TypeId) (u : V) (F : FV) : Prop := match knOf P s, knOf P t, u with
  | some _, some k, .lit (.int _ a) => F true (.lit (.int k (k.wrap a)))
  | _, _, _ => False
def pickV (c x y : V) (F : FV) : Prop := match c with | .lit (.bool t) => F true (bif t then x else y) | _ => False
def ncV (u : V) (F : FV) : Prop := match u with
  | .ref o z i off => F true (.ref o z i off)
  | .rref z l i off => F true (.rref z l i off)
  | .clo f c => F true (.clo f c)
  | _ => False

/-! ### Places -/
def fadV (P : Program) (t : TypeId) (u : V) (j : Nat) (F : FV) : Prop := match fdOf P t j with
  | none => False
  | some (o, _, _) => match u with
    | .ref b z i off => F true (.ref b z i (off + o))
    | .rref z l i off => F true (.rref z l i (off + o))
    | _ => False
def fldV (P : Program) (t : TypeId) (u : V) (j : Nat) (F : FV) : Prop := match fdOf P t j with
  | none => False
  | some (o, ag, n) => match u with
    | .agg l => bif ag then tkK l o n fun r => F true (.agg r) else atK l o fun v => F true v
    | _ => False
/-- A place of so many. -/
def inK (u : V) (n : Nat) (G : Nat → Prop) : Prop := match u with
  | .lit (.int _ a) => if 0 ≤ a ∧ a < n then G a.toNat else False
  | _ => False
def idxV (P : Program) (t : TypeId) (u v : V) (F : FV) : Prop := match u with
  | .sl o z off len => (match elOf P t with
    | some (_, z') => if z' = z then inK v len fun m => F true (.ref o z (off + m) 0) else False
    | none => False)
  | .row z l | .xrow z l => (match elOf P t with
    | some (_, z') => if z' = z ∧ 0 < z then inK v l.length fun m => F true (.rref z l m 0) else False
    | none => False)
  | .ref o 0 0 off => (match arOf P t with
    | some (n, _, z) => inK v n fun m => F true (.ref o z m off)
    | none => False)
  | _ => False
def strAt (s : ByteArray) (m : Nat) : Nat := (s.data.toList.getD m 0).toNat
def ixvV (P : Program) (t : TypeId) (u v : V) (F : FV) : Prop := match u with
  | .agg l => (match arOf P t with
    | some (n, e, z) => inK v n fun m => (match agOf P e with
      | some none => if z = 1 ∧ l.length = n then atK l m fun x => F true x else False
      | _ => False)
    | none => False)
  | .lit (.string s) => if isStr P t = true then inK v s.size fun m => F true (.lit (.int .u8 (strAt s m))) else False
  | _ => False
def extV (u : V) (j : Nat) (F : FV) : Prop := match u with
  | .tup l => atK l j fun x => F true x
  | _ => False

/-! ### Slices of slices -/
/-- A bound of at most so many. -/
def bdK (u : V) (n : Nat) (G : Nat → Prop) : Prop := match u with
  | .lit (.int _ a) => if 0 ≤ a ∧ a ≤ n then G a.toNat else False
  | _ => False
def bdoK (u : Option V) (d n : Nat) (G : Nat → Prop) : Prop := match u with
  | some u => bdK u n G
  | none => G d
/-- A part of a slice; where 'mx' is given, there is no room behind. -/
def slcV (P : Program) (t : TypeId) (u : V) (lo hi mx : Option V) (F : FV) : Prop := match elOf P t with
  | none => False
  | some (_, z') => match u with
    | .sl o z off len => if z' = z ∧ mx.isNone = true then bdoK hi len len fun h => bdoK lo 0 h fun l => F true (.sl o z (off + l) (h - l)) else False
    | .row z L => if z' = z then (match mx with
        | none => bdoK hi L.length L.length fun h => bdoK lo 0 h fun l => F true (.row z ((L.take h).drop l))
        | some m => if hi.isSome = true then bdK m L.length fun m => bdoK hi L.length m fun h => if m = h then bdoK lo 0 h fun l => F true (.xrow z ((L.take h).drop l)) else False else False) else False
    | .xrow z L => if z' = z ∧ mx.isNone = true then bdoK hi L.length L.length fun h => bdoK lo 0 h fun l => F true (.row z ((L.take h).drop l)) else False
    | .lit (.slice none 0 0) => if mx.isNone = true then bdoK hi 0 0 fun h => bdoK lo 0 h fun l => F true (.lit (.slice none 0 0)) else False
    | _ => False

/-! ### Composite values -/
/-- Parts put into cells, each at its place. -/
def fillK (place : Nat → Option (Nat × Nat)) : List (Nat × V) → List V → (List V → Prop) → Prop
  | [], l, G => G l
  | (i, u) :: r, l, G => match place i with
    | none => False
    | some (o, n) => clK u fun c => lenK c n (wrK l o c fun l' => fillK place r l' G)
def plOf (P : Program) (t : TypeId) (j : Nat) : Option (Nat × Nat) := match P.underlying t with
  | some (.struct fs) => (match fs[j]? with
    | some f => (szOf P f.type).map fun z => (f.offset, z)
    | none => none)
  | some (.array _ e) => (szOf P e).map fun z => (j * z, z)
  | _ => none
def isAg (P : Program) (t : TypeId) : Bool := match P.underlying t with
  | some d => aggD d
  | none => false
/-- All types of its parts have a size. -/
def szs (P : Program) (t : TypeId) : Bool := match P.underlying t with
  | some (.struct fs) => fs.toList.all fun f => (szOf P f.type).isSome
  | some (.array _ e) => (szOf P e).isSome
  | _ => true
def bldV (P : Program) (t : TypeId) (ps : List (Nat × V)) (F : FV) : Prop := match zeOf P t with
  | some C => if isAg P t = true ∧ szs P t = true then allOne C (fillK (plOf P t) ps (C.map V.lit) fun l => F true (.agg l)) else False
  | none => False

/-! ### One operation that touches no memory -/
def valV (τ : Bool) (P : Program) (o : Oper) (ρ : Vg) (F : FV) : Prop := match o.op with
  | .move x | .assign x => evV ρ x fun u => F true u
  | .pick c x y => evV ρ c fun c => evV ρ x fun x => evV ρ y fun y => pickV c x y F
  | .nilCheck x => evV ρ x fun u => ncV u F
  | .binOp op t x y _ => evV ρ x fun u => evV ρ y fun v => binV P op t u v F
  | .unOp op _ x => evV ρ x fun u => unoV op u F
  | .convert s d x => evV ρ x fun u => cvtV P s d u F
  | .slice t x lo hi mx => evV ρ x fun x => evoV ρ lo fun lo => evoV ρ hi fun hi => evoV ρ mx fun mx => slcV P t x lo hi mx F
  | .fieldAddr s x f => evV ρ x fun u => fadV P s u f F
  | .field t x f => evV ρ x fun u => fldV P t u f F
  | .indexAddr t x i => evV ρ x fun u => evV ρ i fun v => idxV P t u v F
  | .index t x i => evV ρ x fun u => evV ρ i fun v => ixvV P t u v F
  | .extract t i => evV ρ t fun u => extV u i F
  | _ => False

/-! ### Memory -/
def rdP (e : List PV) (off : Nat) (q : Option Nat) (F : FV) : Prop := match q with
  | none => atK e off fun p => F true (V.ofP p)
  | some n => tkK e off n fun r => F true (.agg (r.map V.ofP))
def rdO (ob : Ob) (z i off : Nat) (q : Option Nat) (F : FV) : Prop := match ob with
  | .cells l => (match q with
    | none => atK l (adr z i off) fun u => F true u
    | some n => tkK l (adr z i off) n fun r => F true (.agg r))
  | .row z' l => if z' = z then atK l i fun e => rdP e off q F else False
def rdV (u : V) (σ : St) (q : Option Nat) (F : FV) : Prop := match u with
  | .ref o z i off => obV σ o fun ob => rdO ob z i off q F
  | .rref z l i off => atK l i fun e => rdP e off q F
  | _ => False
def ldV (P : Program) (t : TypeId) (u : V) (σ : St) (F : FV) : Prop := match agOf P t with
  | some q => rdV u σ q F
  | none => False
def wrO (ob : Ob) (z i off : Nat) (c : List V) (G : Ob → Prop) : Prop := match ob with
  | .cells l => wrK l (adr z i off) c fun l' => G (.cells l')
  | .row z' l => if z' = z then atK l i fun e => pvsK c fun ps => wrK e off ps fun e' => G (.row z (l.set i e')) else False
def wrV (u : V) (σ : St) (c : List V) (K : KS) : Prop := match u with
  | .ref o z i off => obV σ o fun ob => wrO ob z i off c fun ob' => K true (σ.set o (some ob'))
  | _ => False
def stV (P : Program) (t : TypeId) (u v : V) (σ : St) (K : KS) : Prop := match szOf P t with
  | some (n + 1) => clK v fun c => lenK c (n + 1) (wrV u σ c K)
  | _ => False

def rowO (ob : Ob) (z off len : Nat) (G : List (List PV) → Prop) : Prop := match ob with
  | .row z'' l => if z'' = z ∧ off + len ≤ l.length then G ((l.drop off).take len) else False
  | _ => False
/-- What a slice reads as. -/
def rowK (u : V) (σ : St) (z : Nat) (G : List (List PV) → Prop) : Prop := match u with
  | .row z' l | .xrow z' l => if z' = z then G l else False
  | .lit (.slice none 0 0) => G []
  | .sl o z' off len => if z' = z then obV σ o fun ob => rowO ob z off len G else False
  | _ => False
/-- A new block of the call's own. -/
def newO (σ : St) (ob : Ob) (K : Nat → St → Prop) : Prop := K σ.length (σ ++ [some ob])
def alcV (P : Program) (t : TypeId) (σ : St) (K : KV) : Prop := match zeOf P t with
  | some C => allOne C (newO σ (.cells (C.map V.lit)) fun o σ' => K true (.ref o 0 0 0) σ')
  | none => False
def boxV (u : V) (σ : St) (K : KV) : Prop := clK u fun l => newO σ (.cells l) fun o σ' => K true (.ref o 0 0 0) σ'
/-- Parts of a slice that is written out, one behind the other. -/
def prtK (z : Nat) : Nat → List (Nat × V) → (List (List PV) → Prop) → Prop
  | _, [], G => G []
  | j, (i, u) :: r, G => if i = j then clK u fun c => lenK c z (pvsK c fun e => prtK z (j + 1) r fun es => G (e :: es)) else False
def bslV (P : Program) (t : TypeId) (n : Nat) (ps : List (Nat × V)) (σ : St) (K : KV) : Prop := match elOf P t with
  | some (e, z) => if (zeOf P e).isSome = true ∧ 0 < z ∧ n * z ≤ 16777216 then prtK z 0 ps fun l => lenK l n (newO σ (.row z l) fun o σ' => K true (.sl o z 0 n) σ') else False
  | none => False
/-- So many elements of nought; c: its cells. -/
def zrow (C : List Value) (n : Nat) : List (List PV) := List.replicate n (C.map PV.lit)
def mslU (z y : Nat) (C : List Value) (l c : V) (σ : St) (K : KV) : Prop := match l, c with
  | .lit (.int .i64 a), .lit (.int .i64 b) => if 0 ≤ a ∧ a = b ∧ a * y ≤ 140737488355328 ∧ a < 4611686018427387904 ∧ 0 < y ∧ C.length = z then allOne C (newO σ (.row z (zrow C a.toNat)) fun o σ' => K true (.sl o z 0 a.toNat) σ') else False
  | _, _ => False
def mslV (P : Program) (t : TypeId) (l c : V) (σ : St) (K : KV) : Prop := match elOf P t with
  | some (e, z) => (match zeOf P e, byOf P e with
    | some C, some y => mslU z y C l c σ K
    | _, _ => False)
  | none => False
def lenV (u : V) (F : FV) : Prop := match u with
  | .row _ l | .xrow _ l => F true (.lit (.int .i64 l.length))
  | .sl _ _ _ len => F true (.lit (.int .i64 len))
  | .lit (.slice none 0 0) => F true (.lit (.int .i64 (0 : Nat)))
  | _ => False
def apdO (ob : Ob) (z y len o : Nat) (m : List (List PV)) (σ : St) (K : KV) : Prop := match ob with
  | .row z'' l => if z'' = z ∧ l.length = len ∧ (len + m.length) * 2 * y ≤ 281474976710656 then newO (σ.set o none) (.row z (l ++ m)) fun o' σ' => K true (.sl o' z 0 (len + m.length)) σ' else False
  | _ => False
def apdU (e : Bool) (z y : Nat) (u : V) (m : List (List PV)) (σ : St) (K : KV) : Prop := match u with
  | .sl o z' off len => if e = false ∧ z' = z ∧ off = 0 then obV σ o fun ob => apdO ob z y len o m σ K else False
  | .lit (.slice none 0 0) => if m.length * 2 * y ≤ 281474976710656 then newO σ (.row z m) fun o' σ' => K true (.sl o' z 0 m.length) σ' else False
  | .xrow z' l => if z' = z ∧ 0 < m.length ∧ (l.length + m.length) * 2 * y ≤ 281474976710656 then newO σ (.row z (l ++ m)) fun o' σ' => K true (.sl o' z 0 (l.length + m.length)) σ' else False
  | _ => False
/-- 'append'; a block that it lengthens is told anew, under another number. -/
def apdV (P : Program) (e : Bool) (t tx : TypeId) (u x : V) (σ : St) (K : KV) : Prop := match elOf P t, elOf P tx with
  | some (et, z), some (_, zx) => (match zeOf P et, byOf P et with
    | some C, some y => if 0 < y ∧ C.length = z ∧ zx = z then rowK x σ z fun m => apdU e z y u m σ K else False
    | _, _ => False)
  | _, _ => False
def cpyO (ob : Ob) (z o off len : Nat) (m : List (List PV)) (σ : St) (K : KV) : Prop := match ob with
  | .row z'' l => if z'' = z ∧ off + len ≤ l.length then K true (.lit (.int .i64 m.length)) (σ.set o (some (.row z (l.take off ++ m ++ l.drop (off + m.length))))) else False
  | _ => False
def cpyU (z : Nat) (u : V) (m : List (List PV)) (σ : St) (K : KV) : Prop := match u with
  | .sl o z' off len => if z' = z ∧ m.length ≤ len then obV σ o fun ob => cpyO ob z o off len m σ K else False
  | _ => False
/-- 'copy' to a block of the call's own. -/
def cpyV (P : Program) (t tx : TypeId) (u x : V) (σ : St) (K : KV) : Prop := match elOf P t, elOf P tx with
  | some (_, z), some (_, zx) => if zx = z then rowK x σ z fun m => cpyU z u m σ K else False
  | _, _ => False
def mnmx (op : Builtin) (a b : Int) : Int := match op with
  | .min => min a b
  | _ => max a b
/-- min and max. -/
def intsV : List V → Option (List (IntKind × Int))
  | [] => some []
  | .lit (.int i a) :: r => (intsV r).map ((i, a) :: ·)
  | _ => none
def mmV (b : Builtin) (us : List V) (F : FV) : Prop := match intsV us with
  | some ((i, a) :: r) => F true (.lit (.int i (r.foldl (fun q x => mnmx b q x.2) a)))
  | _ => False

/-! ### Calls -/
def callV (P : Program) (e : Bool) (f : FuncId) (vs : List V) (σ : St) (K : KV) : Prop :=
  (∀ (args : Array Value) (w : World), (callFunc f args).run P w = .ok (.enter f args) w) ∧
  ∀ (μ : Mu) (Im : Nat → Prop) (w : World) (args : List Value), Rel μ Im σ w → RepL w Im μ vs args →
    Rets P f args w fun v w' => ∃ u σ' μ' Im', Rel μ' Im' σ' w' ∧ Stp μ Im σ w μ' Im' σ' w' ∧ (e = true → Ext [] w w') ∧ RepV w' Im' μ' u v ∧ K true u σ'
def calV (P : Program) (e : Bool) (f : V) (args : List V) (σ : St) (K : KV) : Prop := match f with
  | .clo g c => callV P e g (args ++ c) σ K
  | _ => False
def bltV (P : Program) (e : Bool) (b : Builtin) (ats : List TypeId) (args : List V) (σ : St) (K : KV) : Prop := match b, ats, args with
  | .len, [t], [u] => (match elOf P t with
    | some _ => lenV u fun τ u => K τ u σ
    | none => False)
  | .append, [t, tx], [u, x] => apdV P e t tx u x σ K
  | .copy, [t, tx], [u, x] => bif e then False else cpyV P t tx u x σ K
  | .min, _, us => mmV .min us fun τ u => K τ u σ
  | .max, _, us => mmV .max us fun τ u => K τ u σ
  | _, _, _ => False

/-! ### One operation; e: it may only add to the heap -/
def opV (τ e : Bool) (P : Program) (o : Oper) (ρ : Vg) (σ : St) (K : KV) : Prop := match o.op with
  | .alloc t => alcV P t σ K
  | .box _ x => evV ρ x fun u => boxV u σ K
  | .build t ps => evpV ρ ps.toList fun vs => bldV P t vs fun τ u => K τ u σ
  | .buildSlice t n ps => evpV ρ ps.toList fun vs => bslV P t n vs σ K
  | .load t a => evV ρ a fun u => ldV P t u σ fun τ v => K τ v σ
  | .store t a x => evV ρ a fun u => evV ρ x fun v => bif e then False else stV P t u v σ fun τ σ' => K τ (.tup []) σ'
  | .makeFunc fn first captured => (match fn, first.toList with
    | .func f, [] => evsV ρ captured.toList fun c => K true (.clo f c) σ
    | _, _ => False)
  | .makeSlice t l c => evV ρ l fun l => evV ρ c fun c => mslV P t l c σ K
  | .call c => (match c.callee with
    | .value f => evV ρ f fun f => evsV ρ c.args.toList fun args => calV P e f args σ K
    | .builtin b => evsV ρ c.args.toList fun args => bltV P e b c.argTypes.toList args σ K
    | _ => False)
  | _ => valV τ P o ρ fun τ u => K τ u σ
end Go.Vx
