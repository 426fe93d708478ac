import Derived.Test.YtcnlmelpnflhnaaGreatE5
namespace Go.Vx
open Go.Eng
set_option linter.unusedSimpArgs false
set_option linter.unusedVariables false
section
variable {P:Program} {k n:Nat} {pl:aH} {ρ:Vg} {σ:St} {Q:fI} {K:KR} {e:Bool}
@[go_sem ↓] theorem OZ:dJ true P k pl .skip ρ σ Q=Q true .normal ρ σ:=(rfl)
@[go_sem ↓] theorem Lg {id:Nat} {l:List Oper}:dJ true P k pl (.region id l.toArray false) ρ σ Q=opsV true P l.toArray l ρ σ fun τ=>Q τ .normal:=(rfl)
@[go_sem ↓] theorem Re {id:Nat} {l:List Oper}:dJ true P k pl (.region id l.toArray true) ρ σ Q=bZ true P l.toArray (pl id) ρ σ fun τ=>Q τ .normal:=(rfl)
@[go_sem ↓] theorem Ua {a b:Code}:dJ true P k pl (.seq a b) ρ σ Q=dJ true P k pl a ρ σ (kY (fun τ ρ' σ'=>dJ τ P k pl b ρ' σ' Q) Q):=(rfl)
@[go_sem ↓] theorem Qx {c:Operand} {a b:Code}:dJ true P k pl (.cond c a b) ρ σ Q=bX ρ c fun v=>xY v (fun τ=>dJ τ P k pl a ρ σ Q) (fun τ=>dJ τ P k pl b ρ σ Q):=(rfl)
@[go_sem ↓] theorem M4 {id:Nat} {c:Code}:dJ true P k pl (.block id c) ρ σ Q=dJ true P k pl c ρ σ (nb id Q):=(rfl)
@[go_sem ↓] theorem Qb {c:Code}:dJ true P k pl (.loop c) ρ σ Q=vQ k (dJ true P k pl c) ρ σ Q:=(rfl)
@[go_sem ↓] theorem QS {id:Nat}:dJ true P k pl (.exit id) ρ σ Q=Q true (.exit id) ρ σ:=(rfl)
@[go_sem ↓] theorem Ur:dJ true P k pl .ret ρ σ Q=Q true .ret ρ σ:=(rfl)
@[go_sem ↓] theorem Oq {c:Code}:dJ true P k pl (.scope c) ρ σ Q=dJ true P k pl c ρ σ (yI Q):=(rfl)
@[go_sem ↓] theorem MI {l:Nat}:dJ true P k pl (.label l) ρ σ Q=Q true .normal ρ σ:=(rfl)
@[go_sem ↓] theorem MG:yI Q true .ret ρ σ=Q true .ret ρ σ:=(rfl)
@[go_sem ↓] theorem IE:kY K Q true .normal ρ σ=K true ρ σ:=(rfl)
@[go_sem ↓] theorem NR {i:Nat}:kY K Q true (.exit i) ρ σ=Q true (.exit i) ρ σ:=(rfl)
@[go_sem ↓] theorem R4:kY K Q true .ret ρ σ=Q true .ret ρ σ:=(rfl)
@[go_sem ↓] theorem HX {id:Nat}:nb id Q true .normal ρ σ=Q true .normal ρ σ:=(rfl)
@[go_sem ↓] theorem LS {id i:Nat}:nb id Q true (.exit i) ρ σ=if i=id then Q true .normal ρ σ else Q true (.exit i) ρ σ:=(rfl)
@[go_sem ↓] theorem MY {id:Nat}:nb id Q true .ret ρ σ=Q true .ret ρ σ:=(rfl)
variable {rs:List ResultVar} {R:V→St→Prop} {KV':List V→Prop}
@[go_sem ↓] theorem Ir:po P rs R true .normal ρ σ=cR P rs ρ σ fun vs=>R (lj vs) σ:=(rfl)
@[go_sem ↓] theorem PY:po P rs R true .ret ρ σ=cR P rs ρ σ fun vs=>R (lj vs) σ:=(rfl)
@[go_sem ↓] theorem IN:cR P [] ρ σ KV'=KV' []:=(rfl)
@[go_sem ↓] theorem IU {t:Nat}:cR P (.tmp t::rs) ρ σ KV'=jA ρ t fun v=>cR P rs ρ σ fun vs=>KV' (v::vs):=(rfl)
@[go_sem ↓] theorem HI {t ty:Nat}:cR P (.cell t ty::rs) ρ σ KV'=jA ρ t fun p=>eW P ty p σ fun _ v=>cR P rs ρ σ fun vs=>KV' (v::vs):=(rfl)
@[go_sem ↓] theorem O9 (v:V):lj [v]=v:=(rfl)
@[go_sem ↓] theorem Pz (v u:V):lj [v,u]=.tup [v,u]:=(rfl)
@[go_sem ↓] theorem Mi (v u x:V):lj [v,u,x]=.tup [v,u,x]:=(rfl)
@[go_sem ↓] theorem MM:lj []=.tup []:=(rfl)
@[go_sem ↓] theorem Xc {i:Nat}:Dj i []=[]:=(rfl)
@[go_sem ↓] theorem Uc {i:Nat} {v:V} {r:List V}:Dj i (v::r)=(i,v)::Dj (i+1) r:=(rfl)
variable {KO:V→Prop}
@[go_sem ↓] theorem GY {s t:Nat} {v:V} {r:Vg}:jA ((s,v)::r) t KO=if s=t then KO v else jA r t KO:=by
 unfold jA;rw[gK]
 by_cases h:s=t
 · rw[if_pos h,if_pos h]
 · rw[if_neg h,if_neg h]
@[go_sem ↓] theorem abb {i t:Nat} {v:V} {r:List V}:jA (Dj i (v::r)) t KO=if i=t then KO v else jA (Dj (i+1) r) t KO:=GY
@[go_sem ↓] theorem aae {t:Nat}:bX ρ (.tmp t) KO=jA ρ t KO:=(rfl)
@[go_sem ↓] theorem OL {v:Value}:bX ρ (.const v) KO=pC v KO:=(rfl)
@[go_sem ↓] theorem Sz {f:Nat}:bX ρ (.func f) KO=KO (.clo f []):=(rfl)
@[go_sem ↓] theorem VC {i:IntKind} {a:Int}:pC (.int i a) KO=KO (.lit (.int i a)):=(rfl)
@[go_sem ↓] theorem PS {b:Bool}:pC (.bool b) KO=KO (.lit (.bool b)):=(rfl)
@[go_sem ↓] theorem Md {s:ByteArray}:pC (.string s) KO=KO (.lit (.string s)):=(rfl)
@[go_sem ↓] theorem Js {a:Option Addr}:pC (.pointer a) KO=KO (.lit (.pointer a)):=(rfl)
@[go_sem ↓] theorem Oj {a:Option Addr} {l c:Nat}:pC (.slice a l c) KO=KO (.lit (.slice a l c)):=(rfl)
@[go_sem ↓] theorem HK:pC .nilIface KO=KO (.lit .nilIface):=(rfl)
@[go_sem ↓] theorem Vy:jD ρ [] KV'=KV' []:=(rfl)
@[go_sem ↓] theorem OA {x:Operand} {xs:List Operand}:jD ρ (x::xs) KV'=bX ρ x fun v=>jD ρ xs fun vs=>KV' (v::vs):=(rfl)
variable {KP:List (Nat×V)→Prop} {KM:Option V→Prop}
@[go_sem ↓] theorem Vd:qP ρ [] KP=KP []:=(rfl)
@[go_sem ↓] theorem OC {i:Nat} {x:Operand} {xs:List (Nat×Operand)}:qP ρ ((i,x)::xs) KP=bX ρ x fun v=>qP ρ xs fun vs=>KP ((i,v)::vs):=(rfl)
@[go_sem ↓] theorem RL:i7 ρ none KM=KM none:=(rfl)
@[go_sem ↓] theorem Qp {x:Operand}:i7 ρ (some x) KM=bX ρ x fun v=>KM (some v):=(rfl)
@[go_sem ↓] theorem RI {d:Nat} {v:V}:bS ρ (some d) v=(d,v)::ρ:=(rfl)
@[go_sem ↓] theorem Ru {v:V}:bS ρ none v=ρ:=(rfl)
variable {all r:List Oper} {d:Option Nat} {dn:Nat} {op:Op} {ty t s:TypeId} {pos:String} {af:Array Edge} {g:Option (Nat×Bool)} {kv:KV} {F:FV}
@[go_sem ↓] theorem Wu:opsV true P all.toArray [] ρ σ K=K true ρ σ:=(rfl)
@[go_sem ↓] theorem PJ:opsV true P all.toArray (⟨some dn,op,ty,pos,af,none⟩::r) ρ σ K=dZ true false P ⟨some dn,op,ty,pos,af,none⟩ ρ σ fun τ v σ'=>opsV τ P all.toArray r ((dn,v)::ρ) σ' K:=(rfl)
@[go_sem ↓] theorem RM:opsV true P all.toArray (⟨none,op,ty,pos,af,none⟩::r) ρ σ K=dZ true false P ⟨none,op,ty,pos,af,none⟩ ρ σ fun τ _ σ'=>opsV τ P all.toArray r ρ σ' K:=(rfl)
@[go_sem ↓] theorem DN {j:Nat} {want:Bool}:opsV true P all.toArray (⟨some dn,op,ty,pos,af,some (j,want)⟩::r) ρ σ K=
 rO all j fun t=>jA ρ t fun g=>m6 g want (fun τ=>dZ τ false P ⟨some dn,op,ty,pos,af,some (j,want)⟩ ρ σ fun τ v σ'=>opsV τ P all.toArray r ((dn,v)::ρ) σ' K) (fun τ=>opsV τ P all.toArray r ((dn,.tup [])::ρ) σ K):=by
 rw[tJ];simp only[opsV,ahu]
 rfl
@[go_sem ↓] theorem Ub:bZ true P all.toArray [] ρ σ K=K true ρ σ:=(rfl)
@[go_sem ↓] theorem abc {i q:Nat} {S:List (Nat×Nat×Nat)}:bZ true P all.toArray ((i,0,q)::S) ρ σ K=cY all i fun o=>fS true P all.toArray o ρ σ 0 fun τ ρ' σ'=>bZ τ P all.toArray S ρ' σ' K:=(rfl)
@[go_sem ↓] theorem ac0 {i q:Nat} {S:List (Nat×Nat×Nat)}:bZ true P all.toArray ((i,1,q)::S) ρ σ K=cY all i fun o=>fS true P all.toArray o ρ σ 1 fun τ ρ' σ'=>bZ τ P all.toArray S ρ' σ' K:=(rfl)
@[go_sem ↓] theorem abT {i q:Nat} {S:List (Nat×Nat×Nat)}:bZ true P all.toArray ((i,2,q)::S) ρ σ K=cY all i fun o=>fS true P all.toArray o ρ σ 2 fun τ ρ' σ'=>bZ τ P all.toArray S ρ' σ' K:=(rfl)
@[go_sem ↓] theorem ac1 {i q:Nat} {S:List (Nat×Nat×Nat)}:bZ true P all.toArray ((i,3,q)::S) ρ σ K=cY all i fun o=>dZ true true P o ρ σ fun τ u σ'=>bZ τ P all.toArray S (bS ρ o.dst u) σ' K:=(rfl)
@[go_sem ↓] theorem ac5 {i q:Nat} {S:List (Nat×Nat×Nat)}:bZ true P all.toArray ((i,4,q)::S) ρ σ K=cY all i fun o=>Ln ρ o.dst (dZ true true P o ρ σ fun τ _ _=>bZ τ P all.toArray S ρ σ K):=(rfl)
@[go_sem ↓] theorem acG {i q:Nat} {S:List (Nat×Nat×Nat)}:bZ true P all.toArray ((i,5,q)::S) ρ σ K=cY all i fun o=>gW true P o ρ fun τ u=>bZ τ P all.toArray S (bS ρ o.dst u) σ K:=(rfl)
@[go_sem ↓] theorem adf {i q:Nat} {S:List (Nat×Nat×Nat)}:bZ true P all.toArray ((i,8,q)::S) ρ σ K=cY all i fun o=>cY all q fun p=>dZ true true P o ρ σ fun τ u _=>dZ τ false P p ρ σ fun τ _ σ1=>dZ τ true P o ρ σ1 fun τ u2 _=>qT u2 u (bZ τ P all.toArray S (bS ρ o.dst u) σ1 K):=(rfl)
@[go_sem ↓] theorem QK {S:List (Nat×Nat×Nat)} {rm:Nat}:fp P all.toArray S 0 rm true ρ σ K=K true ρ σ:=(rfl)
@[go_sem ↓] theorem PO {u:V} {p:Prop}:qT u u p=p:=by simp[qT]
@[go_sem ↓] theorem Xl {q:Nat} {p:Prop}:Ln [] (some q) p=p:=(rfl)
@[go_sem ↓] theorem SL {q s:Nat} {u:V} {p:Prop} (h:s≠q):Ln ((s,u)::ρ) (some q) p=Ln ρ (some q) p:=by simp[Ln,gK,h]
@[go_sem ↓] theorem Nq {tag:Nat}:fS true P all.toArray ⟨some dn,op,ty,pos,af,none⟩ ρ σ tag K=iq true P ⟨some dn,op,ty,pos,af,none⟩ ρ σ tag fun τ v σ'=>K τ ((dn,v)::ρ) σ':=(rfl)
@[go_sem ↓] theorem Om {tag:Nat}:fS true P all.toArray ⟨none,op,ty,pos,af,none⟩ ρ σ tag K=iq true P ⟨none,op,ty,pos,af,none⟩ ρ σ tag fun τ _ σ'=>K τ ρ σ':=(rfl)
@[go_sem ↓] theorem Cl {tag j:Nat} {want:Bool}:fS true P all.toArray ⟨some dn,op,ty,pos,af,some (j,want)⟩ ρ σ tag K=
 rO all j fun t=>jA ρ t fun g=>m6 g want (fun τ=>iq τ P ⟨some dn,op,ty,pos,af,some (j,want)⟩ ρ σ tag fun τ v σ'=>K τ ((dn,v)::ρ) σ') (fun τ=>K τ ((dn,.tup [])::ρ) σ):=by
 rw[tJ];simp only[fS,ahu]
 rfl
@[go_sem ↓] theorem OQ {o:Oper}:iq true P o ρ σ 0 kv=nq true P o ρ σ fun τ v=>kv τ v σ:=(rfl)
@[go_sem ↓] theorem U4 {o:Oper}:iq true P o ρ σ 1 kv=dZ true true P o ρ σ kv:=(rfl)
@[go_sem ↓] theorem VW {o:Oper}:iq true P o ρ σ 2 kv=dZ true false P o ρ σ kv:=(rfl)
section
variable {A B:Bool→Prop} {p:Prop} [Decidable p]
@[go_sem ↓] theorem abq:m6 (.lit (.bool true)) true A B=A true:=(rfl)
@[go_sem ↓] theorem ack:m6 (.lit (.bool false)) false A B=A true:=(rfl)
@[go_sem ↓] theorem abM:m6 (.lit (.bool true)) false A B=B true:=(rfl)
@[go_sem ↓] theorem adi:m6 (.lit (.bool false)) true A B=B true:=(rfl)
@[go_sem ↓] theorem QU {want:Bool}:m6 (.tup []) want A B=B true:=(rfl)
@[go_sem ↓] theorem Uu (h:p):m6 (.lit (.bool (decide p))) true A B=A true:=by simp[m6,h]
@[go_sem ↓] theorem UK (h:¬p):m6 (.lit (.bool (decide p))) true A B=B true:=by simp[m6,h]
@[go_sem ↓] theorem S7 (h:p):m6 (.lit (.bool (decide p))) false A B=B true:=by simp[m6,h]
@[go_sem ↓] theorem S9 (h:¬p):m6 (.lit (.bool (decide p))) false A B=A true:=by simp[m6,h]
@[go_sem ↓] theorem Q9 (h:p):m6 (.lit (.bool (!decide p))) true A B=B true:=by simp[m6,h]
@[go_sem ↓] theorem P1 (h:¬p):m6 (.lit (.bool (!decide p))) true A B=A true:=by simp[m6,h]
@[go_sem ↓] theorem Rf (h:p):m6 (.lit (.bool (!decide p))) false A B=A true:=by simp[m6,h]
@[go_sem ↓] theorem Qg (h:¬p):m6 (.lit (.bool (!decide p))) false A B=B true:=by simp[m6,h]
@[go_sem ↓] theorem Wf:xY (.lit (.bool true)) A B=A true:=by simp[xY]
@[go_sem ↓] theorem Q5:xY (.lit (.bool false)) A B=B true:=by simp[xY]
@[go_sem ↓] theorem aav (h:p):xY (.lit (.bool (decide p))) A B=A true:=by simp[xY,h]
@[go_sem ↓] theorem aax (h:¬p):xY (.lit (.bool (decide p))) A B=B true:=by simp[xY,h]
@[go_sem ↓] theorem Wy (h:p):xY (.lit (.bool (!decide p))) A B=B true:=by simp[xY,h]
@[go_sem ↓] theorem Tv (h:¬p):xY (.lit (.bool (!decide p))) A B=A true:=by simp[xY,h]
variable {x y:V}
@[go_sem ↓] theorem Nr:gH (.lit (.bool true)) x y F=F true x:=(rfl)
@[go_sem ↓] theorem LL:gH (.lit (.bool false)) x y F=F true y:=(rfl)
@[go_sem ↓] theorem P5 (h:p):gH (.lit (.bool (decide p))) x y F=F true x:=by simp[gH,h]
@[go_sem ↓] theorem O7 (h:¬p):gH (.lit (.bool (decide p))) x y F=F true y:=by simp[gH,h]
@[go_sem ↓] theorem Nz (h:p):gH (.lit (.bool (!decide p))) x y F=F true y:=by simp[gH,h]
@[go_sem ↓] theorem NA (h:¬p):gH (.lit (.bool (!decide p))) x y F=F true x:=by simp[gH,h]
end
variable {x y c a b:Operand} {j:Nat}
@[go_sem ↓] theorem Ww:dZ true e P ⟨d,.move x,ty,pos,af,g⟩ ρ σ kv=bX ρ x fun u=>kv true u σ:=(rfl)
@[go_sem ↓] theorem O1:gW true P ⟨d,.move x,ty,pos,af,g⟩ ρ F=bX ρ x fun u=>F true u:=(rfl)
@[go_sem ↓] theorem Ox:nq true P ⟨d,.move x,ty,pos,af,g⟩ ρ σ F=bX ρ x fun u=>F true u:=(rfl)
@[go_sem ↓] theorem M8:dZ true e P ⟨d,.assign x,ty,pos,af,g⟩ ρ σ kv=bX ρ x fun u=>kv true u σ:=(rfl)
@[go_sem ↓] theorem L8:gW true P ⟨d,.assign x,ty,pos,af,g⟩ ρ F=bX ρ x fun u=>F true u:=(rfl)
@[go_sem ↓] theorem Sk:dZ true e P ⟨d,.pick c x y,ty,pos,af,g⟩ ρ σ kv=bX ρ c fun c=>bX ρ x fun x=>bX ρ y fun y=>gH c x y fun τ u=>kv τ u σ:=(rfl)
@[go_sem ↓] theorem Qd:gW true P ⟨d,.pick c x y,ty,pos,af,g⟩ ρ F=bX ρ c fun c=>bX ρ x fun x=>bX ρ y fun y=>gH c x y F:=(rfl)
@[go_sem ↓] theorem Kl:dZ true e P ⟨d,.nilCheck x,ty,pos,af,g⟩ ρ σ kv=bX ρ x fun u=>Lm u fun τ u=>kv τ u σ:=(rfl)
@[go_sem ↓] theorem HG:gW true P ⟨d,.nilCheck x,ty,pos,af,g⟩ ρ F=bX ρ x fun u=>Lm u F:=(rfl)
@[go_sem ↓] theorem HS:nq true P ⟨d,.nilCheck x,ty,pos,af,g⟩ ρ σ F=bX ρ x fun u=>Lm u F:=(rfl)
@[go_sem ↓] theorem Pb {bo:BinOp}:dZ true e P ⟨d,.binOp bo t x y s,ty,pos,af,g⟩ ρ σ kv=bX ρ x fun u=>bX ρ y fun v=>lE P bo t y u v fun τ u=>kv τ u σ:=(rfl)
@[go_sem ↓] theorem M7 {bo:BinOp}:gW true P ⟨d,.binOp bo t x y s,ty,pos,af,g⟩ ρ F=bX ρ x fun u=>bX ρ y fun v=>lE P bo t y u v F:=(rfl)
@[go_sem ↓] theorem NG {bo:BinOp}:nq true P ⟨d,.binOp bo t x y s,ty,pos,af,g⟩ ρ σ F=bX ρ x fun u=>bX ρ y fun v=>lE P bo t y u v F:=(rfl)
@[go_sem ↓] theorem Wj {uo:UnOp}:dZ true e P ⟨d,.unOp uo t x,ty,pos,af,g⟩ ρ σ kv=bX ρ x fun u=>uF uo u fun τ u=>kv τ u σ:=(rfl)
@[go_sem ↓] theorem O3 {uo:UnOp}:nq true P ⟨d,.unOp uo t x,ty,pos,af,g⟩ ρ σ F=bX ρ x fun u=>uF uo u F:=(rfl)
@[go_sem ↓] theorem LP:dZ true e P ⟨d,.convert s t x,ty,pos,af,g⟩ ρ σ kv=bX ρ x fun u=>mN P s t u σ kv:=(rfl)
@[go_sem ↓] theorem Jb:gW true P ⟨d,.convert s t x,ty,pos,af,g⟩ ρ F=bX ρ x fun u=>lT P s t u F:=(rfl)
@[go_sem ↓] theorem H4:nq true P ⟨d,.convert s t x,ty,pos,af,g⟩ ρ σ F=bX ρ x fun u=>fN P s t u σ F:=(rfl)
@[go_sem ↓] theorem Oy {lo hi mx:Option Operand}:dZ true e P ⟨d,.slice t x lo hi mx,ty,pos,af,g⟩ ρ σ kv=bX ρ x fun x=>i7 ρ lo fun lo=>i7 ρ hi fun hi=>i7 ρ mx fun mx=>yp P t x lo hi mx σ fun τ u=>kv τ u σ:=(rfl)
@[go_sem ↓] theorem Ow {lo hi mx:Option Operand}:gW true P ⟨d,.slice t x lo hi mx,ty,pos,af,g⟩ ρ F=bX ρ x fun x=>i7 ρ lo fun lo=>i7 ρ hi fun hi=>i7 ρ mx fun mx=>lX P t x lo hi mx F:=(rfl)
@[go_sem ↓] theorem HJ:dZ true e P ⟨d,.fieldAddr t x j,ty,pos,af,g⟩ ρ σ kv=bX ρ x fun u=>aJ P t u j fun τ u=>kv τ u σ:=(rfl)
@[go_sem ↓] theorem GH:gW true P ⟨d,.fieldAddr t x j,ty,pos,af,g⟩ ρ F=bX ρ x fun u=>aJ P t u j F:=(rfl)
@[go_sem ↓] theorem Hs:nq true P ⟨d,.fieldAddr t x j,ty,pos,af,g⟩ ρ σ F=bX ρ x fun u=>aJ P t u j F:=(rfl)
@[go_sem ↓] theorem HN:dZ true e P ⟨d,.indexAddr t x y,ty,pos,af,g⟩ ρ σ kv=bX ρ x fun u=>bX ρ y fun v=>cE P t u v fun τ u=>kv τ u σ:=(rfl)
@[go_sem ↓] theorem FG:gW true P ⟨d,.indexAddr t x y,ty,pos,af,g⟩ ρ F=bX ρ x fun u=>bX ρ y fun v=>cE P t u v F:=(rfl)
@[go_sem ↓] theorem PI:dZ true e P ⟨d,.index t x y,ty,pos,af,g⟩ ρ σ kv=bX ρ x fun u=>bX ρ y fun v=>t9 P t u v fun τ u=>kv τ u σ:=(rfl)
@[go_sem ↓] theorem Lb:dZ true e P ⟨d,.extract x j,ty,pos,af,g⟩ ρ σ kv=bX ρ x fun u=>BT u j fun τ u=>kv τ u σ:=(rfl)
@[go_sem ↓] theorem KC:gW true P ⟨d,.extract x j,ty,pos,af,g⟩ ρ F=bX ρ x fun u=>BT u j F:=(rfl)
@[go_sem ↓] theorem Pw {ps:List (Nat×Operand)}:dZ true e P ⟨d,.build t ps.toArray,ty,pos,af,g⟩ ρ σ kv=qP ρ ps fun vs=>dA P t vs fun τ u=>kv τ u σ:=(rfl)
@[go_sem ↓] theorem MP {ps:List (Nat×Operand)}:gW true P ⟨d,.build t ps.toArray,ty,pos,af,g⟩ ρ F=qP ρ ps fun vs=>dA P t vs F:=(rfl)
@[go_sem ↓] theorem AJ:dZ true e P ⟨d,.makeInterface t x,ty,pos,af,g⟩ ρ σ kv=bX ρ x fun u=>tj P t u fun τ u=>kv τ u σ:=(rfl)
@[go_sem ↓] theorem QD:nq true P ⟨d,.load t x,ty,pos,af,g⟩ ρ σ F=bX ρ x fun u=>eW P t u σ F:=(rfl)
@[go_sem ↓] theorem UF:dZ true e P ⟨d,.load t x,ty,pos,af,g⟩ ρ σ kv=bX ρ x fun u=>eW P t u σ fun τ v=>kv τ v σ:=(rfl)
@[go_sem ↓] theorem RC:dZ true false P ⟨d,.store t x y,ty,pos,af,g⟩ ρ σ kv=bX ρ x fun u=>bX ρ y fun v=>fJ P t u v σ fun τ σ'=>kv τ (.tup []) σ':=(rfl)
@[go_sem ↓] theorem T5 {xs:List Operand}:nq true P ⟨d,.call {callee:=.builtin .len,args:=xs.toArray,argTypes:=[t].toArray},ty,pos,af,g⟩ ρ σ F=jD ρ xs fun us=>ec P true .len [t] us σ fun τ v _=>F τ v:=(rfl)
@[go_sem ↓] theorem O4:dZ true e P ⟨d,.alloc t,ty,pos,af,g⟩ ρ σ kv=dx P t σ kv:=(rfl)
@[go_sem ↓] theorem aaF:dZ true e P ⟨d,.box t x,ty,pos,af,g⟩ ρ σ kv=bX ρ x fun u=>I8 u σ kv:=(rfl)
@[go_sem ↓] theorem F6 {ps:List (Nat×Operand)}:dZ true e P ⟨d,.buildSlice t n ps.toArray,ty,pos,af,g⟩ ρ σ kv=qP ρ ps fun vs=>fW P t n vs σ kv:=(rfl)
@[go_sem ↓] theorem HO:dZ true e P ⟨d,.makeSlice t x y,ty,pos,af,g⟩ ρ σ kv=bX ρ x fun l=>bX ρ y fun c=>nO P t l c σ kv:=(rfl)
@[go_sem ↓] theorem JW {f:Nat} {cs:List Operand}:dZ true e P ⟨d,.makeFunc (.func f) #[] cs.toArray,ty,pos,af,g⟩ ρ σ kv=jD ρ cs fun c=>kv true (.clo f c) σ:=(rfl)
@[go_sem ↓] theorem WA {f:Operand} {xs:List Operand} {ats:Array TypeId}:dZ true e P ⟨d,.call {callee:=.value f,args:=xs.toArray,argTypes:=ats},ty,pos,af,g⟩ ρ σ kv=bX ρ f fun f=>jD ρ xs fun args=>KQ P e f args σ kv:=(rfl)
@[go_sem ↓] theorem Nj {rc:Operand} {nm:String} {xs:List Operand} {ats:Array TypeId}:dZ true e P ⟨d,.call {callee:=.invoke rc nm,args:=xs.toArray,argTypes:=ats},ty,pos,af,g⟩ ρ σ kv=bX ρ rc fun u=>jD ρ xs fun args=>oh P e u nm args σ kv:=(rfl)
@[go_sem ↓] theorem LK {b:Builtin} {xs:List Operand} {ats:List TypeId}:dZ true e P ⟨d,.call {callee:=.builtin b,args:=xs.toArray,argTypes:=ats.toArray},ty,pos,af,g⟩ ρ σ kv=jD ρ xs fun args=>ec P e b ats args σ kv:=(rfl)
@[go_sem ↓] theorem VZ {f:Nat} {cs args:List V}:KQ P e (.clo f cs) args σ kv=dv P e f (args++cs) σ kv:=(rfl)
@[go_sem ↓] theorem Mf {t tx:TypeId} {u x:V}:ec P e .append [t,tx] [u,x] σ kv=lG P e t tx u x σ kv:=(rfl)
@[go_sem ↓] theorem PR {t tx:TypeId} {u x:V}:ec P false .copy [t,tx] [u,x] σ kv=ya P t tx u x σ kv:=(rfl)
@[go_sem ↓] theorem Ut {ts:List TypeId} {us:List V}:ec P e .min ts us σ kv=DH .min us fun τ u=>kv τ u σ:=(rfl)
@[go_sem ↓] theorem WS {ts:List TypeId} {us:List V}:ec P e .max ts us σ kv=DH .max us fun τ u=>kv τ u σ:=(rfl)
variable {i1 i2 i3 i4:IntKind} {n1 n2 n3 n4:Int}
@[go_sem ↓] theorem Uv:DH .min [.lit (.int i1 n1),.lit (.int i2 n2)] F=F true (.lit (.int i1 (min n1 n2))):=(rfl)
@[go_sem ↓] theorem TE:DH .max [.lit (.int i1 n1),.lit (.int i2 n2)] F=F true (.lit (.int i1 (max n1 n2))):=(rfl)
section
variable {bo:BinOp} {yy:Operand} {u v:V} {t s:TypeId}
@[go_sem ↓] theorem V3 {i:IntKind} {a:Int}:lE P bo t yy (.lit (.int i a)) v F=aL P bo t (.lit (.int i a)) v F:=(rfl)
@[go_sem ↓] theorem Pu {a:Bool}:lE P bo t yy (.lit (.bool a)) v F=aL P bo t (.lit (.bool a)) v F:=(rfl)
@[go_sem ↓] theorem VP {z:Nat} {l:List (List PV)}:lE P bo t yy (.row z l) v F=aL P bo t (.row z l) v F:=(rfl)
@[go_sem ↓] theorem Vn {o z i off:Nat}:lE P bo t yy (.ref o z i off) v F=aL P bo t (.ref o z i off) v F:=(rfl)
@[go_sem ↓] theorem OD {z i off:Nat} {l:List (List PV)}:lE P bo t yy (.rref z l i off) v F=aL P bo t (.rref z l i off) v F:=(rfl)
@[go_sem ↓] theorem VF {l:List V}:lE P bo t yy (.agg l) v F=aL P bo t (.agg l) v F:=(rfl)
theorem kA {nm:String} {f:FuncId} {i:IntKind} {a:Int} {args:List V} (h:Iy P t nm=some f):oh P e (.lit (.iface t (.int i a))) nm args σ kv=dv P e f (.lit (.int i a)::args) σ kv:=by unfold oh;simp only[h]
theorem tC {i k:IntKind} {a:Int} (h:P.underlying t=some (.int k)):tj P t (.lit (.int i a)) F=F true (.lit (.iface t (.int i a))):=by unfold tj;simp only[h]
theorem Gw {s:TypeId} {a:Value} (h:qZ P t=true):lE P .eql t (.const .nilIface) (.lit (.iface s a)) (.lit .nilIface) F=F true (.lit (.bool false)):=by simp[lE,h,qn,dp,gZ,isEq]
theorem fF (h:(jy P s).isSome=true):mN P s t u σ kv=fN P s t u σ fun τ u=>kv τ u σ:=by
 unfold mN;rw[if_neg];rintro ⟨h1,_⟩;unfold jy at h;unfold isStr at h1
 cases hq:P.underlying s with
 | none=>rw[hq] at h1;cases h1
 | some d=>rw[hq] at h h1;cases d<;>first | (simp at h;done) | (simp at h1;done)
end
section
variable {i j:IntKind} {a b:Int}
theorem bd {bo:BinOp} {r:Value} (h0:Nf bo=false) (h:j3 bo i a b=some r):aL P bo t (.lit (.int i a)) (.lit (.int i b)) F=F true (.lit r):=by simp[aL,h0,h,dp]
theorem fX {bo:BinOp} {r:Value} (h0:Nf bo=true) (h:Aw bo i a b=some r):aL P bo t (.lit (.int i a)) (.lit (.int j b)) F=F true (.lit r):=by simp[aL,h0,h,dp]
@[go_sem ↓] theorem Si:aL P .add t (.lit (.int i a)) (.lit (.int i b)) F=F true (.lit (.int i (i.wrap (a+b)))):=bd rfl rfl
@[go_sem ↓] theorem V6:aL P .sub t (.lit (.int i a)) (.lit (.int i b)) F=F true (.lit (.int i (i.wrap (a-b)))):=bd rfl rfl
@[go_sem ↓] theorem SN:aL P .mul t (.lit (.int i a)) (.lit (.int i b)) F=F true (.lit (.int i (i.wrap (a*b)))):=bd rfl rfl
@[go_sem ↓] theorem Uj (h:b≠0):aL P .quo t (.lit (.int i a)) (.lit (.int i b)) F=F true (.lit (.int i (i.wrap (a.tdiv b)))):=bd rfl (by simp[j3,h])
@[go_sem ↓] theorem Wp (h:b≠0):aL P .rem t (.lit (.int i a)) (.lit (.int i b)) F=F true (.lit (.int i (a.tmod b))):=bd rfl (by simp[j3,h])
@[go_sem ↓] theorem Sr:aL P .lss t (.lit (.int i a)) (.lit (.int i b)) F=F true (.lit (.bool (decide (a<b)))):=bd rfl rfl
@[go_sem ↓] theorem Tx:aL P .leq t (.lit (.int i a)) (.lit (.int i b)) F=F true (.lit (.bool (decide (a≤b)))):=bd rfl rfl
@[go_sem ↓] theorem We:aL P .gtr t (.lit (.int i a)) (.lit (.int i b)) F=F true (.lit (.bool (decide (b<a)))):=bd rfl rfl
@[go_sem ↓] theorem Tw:aL P .geq t (.lit (.int i a)) (.lit (.int i b)) F=F true (.lit (.bool (decide (b≤a)))):=bd rfl rfl
@[go_sem ↓] theorem TZ:aL P .eql t (.lit (.int i a)) (.lit (.int i b)) F=F true (.lit (.bool (decide (a=b)))):=bd rfl rfl
@[go_sem ↓] theorem TL:aL P .neq t (.lit (.int i a)) (.lit (.int i b)) F=F true (.lit (.bool (!decide (a=b)))):=bd rfl rfl
@[go_sem ↓] theorem Wl:aL P .and t (.lit (.int i a)) (.lit (.int i b)) F=F true (.lit (.int i (bY .and i a b))):=bd rfl rfl
@[go_sem ↓] theorem ZI:aL P .or t (.lit (.int i a)) (.lit (.int i b)) F=F true (.lit (.int i (bY .or i a b))):=bd rfl rfl
@[go_sem ↓] theorem Wz:aL P .xor t (.lit (.int i a)) (.lit (.int i b)) F=F true (.lit (.int i (bY .xor i a b))):=bd rfl rfl
@[go_sem ↓] theorem LJ:aL P .andNot t (.lit (.int i a)) (.lit (.int i b)) F=F true (.lit (.int i (bY .andNot i a b))):=bd rfl rfl
@[go_sem ↓ high] theorem HM {m:Nat} (h:m≤64):aL P .shl t (.lit (.int .i64 a)) (.lit (.int j (m:Int))) F=F true (.lit (.int .i64 (IntKind.i64.wrap (a*2^m)))):=by
 refine fX rfl ?_;simp only[Aw];rw[if_pos (by omega)];simp only[ag9];rw[ahm (by simpa [IntKind.bits] using h)]
@[go_sem ↓ high] theorem HP {m:Nat} (h:m≤64):aL P .shr t (.lit (.int .i64 a)) (.lit (.int j (m:Int))) F=F true (.lit (.int .i64 (a/2^m))):=by
 refine fX rfl ?_;simp only[Aw];rw[if_pos (by omega)];simp only[ag9];rw[ahm (by simpa [IntKind.bits] using h)]
@[go_sem ↓] theorem mL (h:0≤b∧b≤64):aL P .shl t (.lit (.int .u64 a)) (.lit (.int j b)) F=F true (.lit (.int .u64 (IntKind.u64.wrap (a*2^b.toNat)))):=by
 refine fX rfl ?_;simp only[Aw];rw[if_pos (by omega),ahm (by simp only[IntKind.bits];omega)]
@[go_sem ↓] theorem eT (h:0≤b∧b≤64):aL P .shr t (.lit (.int .u64 a)) (.lit (.int j b)) F=F true (.lit (.int .u64 (a/2^b.toNat))):=by
 refine fX rfl ?_;simp only[Aw];rw[if_pos (by omega),ahm (by simp only[IntKind.bits];omega)]
@[go_sem ↓ high] theorem HQ {m:Nat} (h:m≤64):aL P .shl t (.lit (.int .u64 a)) (.lit (.int j (m:Int))) F=F true (.lit (.int .u64 (IntKind.u64.wrap (a*2^m)))):=by
 refine fX rfl ?_;simp only[Aw];rw[if_pos (by omega)];simp only[ag9];rw[ahm (by simpa [IntKind.bits] using h)]
@[go_sem ↓ high] theorem HV {m:Nat} (h:m≤64):aL P .shr t (.lit (.int .u64 a)) (.lit (.int j (m:Int))) F=F true (.lit (.int .u64 (a/2^m))):=by
 refine fX rfl ?_;simp only[Aw];rw[if_pos (by omega)];simp only[ag9];rw[ahm (by simpa [IntKind.bits] using h)]
@[go_sem ↓] theorem lV (h:0≤b∧b≤32):aL P .shr t (.lit (.int .u32 a)) (.lit (.int j b)) F=F true (.lit (.int .u32 (a/2^b.toNat))):=by
 refine fX rfl ?_;simp only[Aw];rw[if_pos (by omega),ahm (by simp only[IntKind.bits];omega)]
@[go_sem ↓] theorem K3 (h:0≤b∧b≤8):aL P .shl t (.lit (.int .u8 a)) (.lit (.int j b)) F=F true (.lit (.int .u8 (IntKind.u8.wrap (a*2^b.toNat)))):=by
 refine fX rfl ?_;simp only[Aw];rw[if_pos (by omega),ahm (by simp only[IntKind.bits];omega)]
@[go_sem ↓] theorem LX (h:0≤b∧b≤8):aL P .shr t (.lit (.int .u8 a)) (.lit (.int j b)) F=F true (.lit (.int .u8 (a/2^b.toNat))):=by
 refine fX rfl ?_;simp only[Aw];rw[if_pos (by omega),ahm (by simp only[IntKind.bits];omega)]
@[go_sem ↓ high] theorem JO (h: -9223372036854775808≤a+b∧a+b≤9223372036854775807):aL P .add t (.lit (.int .i64 a)) (.lit (.int .i64 b)) F=F true (.lit (.int .i64 (a+b))):=bd rfl (by simp only[j3];rw[wrap_i64 h])
@[go_sem ↓ high] theorem Kb (h: -9223372036854775808≤a-b∧a-b≤9223372036854775807):aL P .sub t (.lit (.int .i64 a)) (.lit (.int .i64 b)) F=F true (.lit (.int .i64 (a-b))):=bd rfl (by simp only[j3];rw[wrap_i64 h])
@[go_sem ↓ high] theorem J1 (h: -9223372036854775808≤a*b∧a*b≤9223372036854775807):aL P .mul t (.lit (.int .i64 a)) (.lit (.int .i64 b)) F=F true (.lit (.int .i64 (a*b))):=bd rfl (by simp only[j3];rw[wrap_i64 h])
@[go_sem ↓ high] theorem Jr (h:0≤a+b∧a+b≤18446744073709551615):aL P .add t (.lit (.int .u64 a)) (.lit (.int .u64 b)) F=F true (.lit (.int .u64 (a+b))):=bd rfl (by simp only[j3];rw[wrap_u64 h])
@[go_sem ↓ high] theorem KX (h:0≤a-b∧a-b≤18446744073709551615):aL P .sub t (.lit (.int .u64 a)) (.lit (.int .u64 b)) F=F true (.lit (.int .u64 (a-b))):=bd rfl (by simp only[j3];rw[wrap_u64 h])
@[go_sem ↓ high] theorem JP (h:0≤a*b∧a*b≤18446744073709551615):aL P .mul t (.lit (.int .u64 a)) (.lit (.int .u64 b)) F=F true (.lit (.int .u64 (a*b))):=bd rfl (by simp only[j3];rw[wrap_u64 h])
@[go_sem ↓ high] theorem Ke (h:0≤a∧a≤9223372036854775807∧0<b):aL P .quo t (.lit (.int .i64 a)) (.lit (.int .i64 b)) F=F true (.lit (.int .i64 (a/b))):=by
 have:=mX h.1 h.2.2
 exact bd rfl (by simp only[j3];rw[if_neg (by omega),Int.tdiv_eq_ediv_of_nonneg h.1,wrap_i64 (by omega)])
@[go_sem ↓ high] theorem KZ (h:0≤a∧a≤18446744073709551615∧0<b):aL P .quo t (.lit (.int .u64 a)) (.lit (.int .u64 b)) F=F true (.lit (.int .u64 (a/b))):=by
 have:=mX h.1 h.2.2
 exact bd rfl (by simp only[j3];rw[if_neg (by omega),Int.tdiv_eq_ediv_of_nonneg h.1,wrap_u64 (by omega)])
@[go_sem ↓ high] theorem Iu (h:0≤a∧b≠0):aL P .rem t (.lit (.int i a)) (.lit (.int i b)) F=F true (.lit (.int i (a%b))):=bd rfl (by simp[j3,h.2,ah8 h.1])
@[go_sem ↓] theorem VG {b:Bool}:uF .not (.lit (.bool b)) F=F true (.lit (.bool !b)):=(rfl)
@[go_sem ↓] theorem Tt:uF .neg (.lit (.int i a)) F=F true (.lit (.int i (i.wrap (0-a)))):=(rfl)
@[go_sem ↓] theorem UW:uF .xor (.lit (.int i a)) F=F true (.lit (.int i (bY .xor i (if i.signed then-1 else i.max) a))):=(rfl)
theorem cP (q:Nat) {m z:Int} (hj:q<i.bits) (hm:m=2^q-1) (hz:z=2^q):aL P .and t (.lit (.int i a)) (.lit (.int i m)) F=F true (.lit (.int i (a%z))):=bd rfl (by simp only[j3];rw[hm,hz,dP hj])
theorem Es {x y:Bool} (h:isBool P t=true):aL P .eql t (.lit (.bool x)) (.lit (.bool y)) F=F true (.lit (.bool (x==y))):=by simp[aL,h,dp,wH,isEq]
theorem Ht {x y:Bool} (h:isBool P t=true):aL P .neq t (.lit (.bool x)) (.lit (.bool y)) F=F true (.lit (.bool (!(x==y)))):=by simp[aL,h,dp,wH,isEq]
theorem GX {o z i off:Nat} (h:n9 P t=true):aL P .eql t (.ref o z i off) (.lit (.pointer none)) F=F true (.lit (.bool false)):=by simp[aL,h,dp,gZ,isEq]
theorem q9 {o z i off:Nat} (h:n9 P t=true):aL P .neq t (.ref o z i off) (.lit (.pointer none)) F=F true (.lit (.bool true)):=by simp[aL,h,dp,gZ,isEq]
theorem kJ {z i off:Nat} {l:List (List PV)} (h:n9 P t=true):aL P .neq t (.rref z l i off) (.lit (.pointer none)) F=F true (.lit (.bool true)):=by simp[aL,h,dp,gZ,isEq]
theorem iP {z:Nat} {l:List (List PV)} (h:sE P t=true∧0<z):aL P .eql t (.row z l) (.lit (.slice none 0 0)) F=m9 .eql l.isEmpty F:=by simp[aL,h]
@[go_sem ↓] theorem QW:m9 .eql false F=F true (.lit (.bool false)):=(rfl)
theorem iO (h1:F true (.lit (.bool true))) (h2:F true (.lit (.bool false))):m9 .eql true F:=⟨h1,h2⟩
theorem ku {kd:IntKind} (hs:(jy P s).isSome=true) (ht:jy P t=some kd):lT P s t (.lit (.int i a)) F=F true (.lit (.int kd (kd.wrap a))):=by
 obtain ⟨q,hq⟩:=ahR.1 hs;simp[lT,hq,ht]
theorem Ip (hs:(jy P s).isSome=true) (ht:jy P t=some .u8) (h:0≤a∧a≤255):lT P s t (.lit (.int i a)) F=F true (.lit (.int .u8 a)):=by rw[ku hs ht,wrap_u8 h]
theorem Fx (hs:(jy P s).isSome=true) (ht:jy P t=some .u32) (h:0≤a∧a≤4294967295):lT P s t (.lit (.int i a)) F=F true (.lit (.int .u32 a)):=by rw[ku hs ht,wrap_u32 h]
theorem jR (hs:(jy P s).isSome=true) (ht:jy P t=some .u64) (h:0≤a∧a≤18446744073709551615):lT P s t (.lit (.int i a)) F=F true (.lit (.int .u64 a)):=by rw[ku hs ht,wrap_u64 h]
theorem vf (hs:(jy P s).isSome=true) (ht:jy P t=some .i64) (h: -9223372036854775808≤a∧a≤9223372036854775807):lT P s t (.lit (.int i a)) F=F true (.lit (.int .i64 a)):=by rw[ku hs ht,wrap_i64 h]
end
@[go_sem ↓] theorem XE {o z i off:Nat}:Lm (.ref o z i off) F=F true (.ref o z i off):=(rfl)
@[go_sem ↓] theorem VI {z:Nat} {l:List (List PV)} {i off:Nat}:Lm (.rref z l i off) F=F true (.rref z l i off):=(rfl)
@[go_sem ↓] theorem TH {l:List V} {j:Nat}:BT (.tup l) j F=lO l j fun x=>F true x:=(rfl)
section
variable {α β:Type} {v:α} {l c:List α} {i m:Nat} {G:α→Prop} {H:List α→Prop} {f:β→α} {L:List β}
@[go_sem ↓] theorem Td:lO (v::l) 0 G=G v:=(rfl)
@[go_sem ↓] theorem UB:lO (v::l) (i+1) G=lO l i G:=by simp[lO]
theorem Oi {x:α} (h:l[i]? =some x):lO l i G=G x:=by simp[lO,h]
@[go_sem ↓] theorem zP [Inhabited β] (h:i<L.length):lO (L.map f) i G=G (f (L.getD i default)):=by
 rw[Oi (x:=f (L.getD i default))];rw[ag4,agp h,ago,agp h]
 rfl
@[go_sem ↓] theorem SJ:uf l 0 0 H=H []:=by simp[uf]
@[go_sem ↓] theorem U8:uf (v::l) 0 (m+1) H=uf l 0 m fun r=>H (v::r):=by simp[uf]
@[go_sem ↓] theorem V4:uf (v::l) (i+1) m H=uf l i m H:=by
 unfold uf;rw[agu,List.drop_succ_cons]
 by_cases h:i+m≤l.length
 · rw[if_pos h,if_pos (by omega)]
 · rw[if_neg h,if_neg (by omega)]
theorem JX (h:l.length=m):uf l 0 m H=H l:=by simp[uf,←h]
@[go_sem ↓] theorem SV:da l 0 [] H=H l:=by
 simp[da]
@[go_sem ↓] theorem UR {x:α}:da (v::l) 0 (x::c) H=da l 0 c fun r=>H (x::r):=by
 simp[da,ah1]
@[go_sem ↓] theorem Vf:da (v::l) (i+1) c H=da l i c fun r=>H (v::r):=by
 unfold da
 by_cases h:i+c.length≤l.length
 · rw[if_pos h,if_pos (by simp;omega)]
   simp[Nat.add_right_comm]
 · rw[if_neg h,if_neg (by simp;omega)]
theorem t8 {x:α} (h:i<l.length):da l i [x] H=H (l.set i x):=by
 unfold da;rw[if_pos (by simp;omega)]
 congr 1
 rw[List.set_eq_take_append_cons_drop,if_pos h]
 simp
@[go_sem ↓] theorem Xw {x:α} (h:i<L.length):da (L.map f) i [x] H=H ((L.map f).set i x):=t8 (by simpa using h)
@[go_sem ↓] theorem Sn {p:Prop}:aI ([]:List α) 0 p=p:=by simp[aI]
@[go_sem ↓] theorem QN {p:Prop}:aI (v::l) (m+1) p=aI l m p:=by simp[aI]
theorem Jq {p:Prop} (h:l.length=m):aI l m p=p:=by simp[aI,h]
end
section
variable {p:Prop} {C:List Value}
@[go_sem ↓] theorem Nu:aB [] p=p:=by simp[aB]
@[go_sem ↓] theorem NK {i:IntKind} {a:Int}:aB (.int i a::C) p=aB C p:=by simp[aB,bj]
@[go_sem ↓] theorem Lx {b:Bool}:aB (.bool b::C) p=aB C p:=by simp[aB,bj]
@[go_sem ↓] theorem JQ {a:Option Addr} {l c:Nat}:aB (.slice a l c::C) p=aB C p:=by simp[aB,bj]
@[go_sem ↓] theorem Hk {a:Option Addr}:aB (.pointer a::C) p=aB C p:=by simp[aB,bj]
@[go_sem ↓] theorem DJ:aB (.nilIface::C) p=aB C p:=by simp[aB,bj]
@[go_sem ↓] theorem Od {m:Nat} {v:Value}:aB (List.replicate m v) p=if m=0∨bj v=true then p else False:=by
 unfold aB
 cases m with
 | zero=>simp
 | succ m=>simp[ahN];exact fun _ h=>.inr h
end
@[go_sem ↓] theorem SU {ob:Ob} {G:Ob→Prop}:m7 (some ob::σ) 0 G=G ob:=(rfl)
@[go_sem ↓] theorem Vv {x:Option Ob} {o:Nat} {G:Ob→Prop}:m7 (x::σ) (o+1) G=m7 σ o G:=by simp[m7,lO]
@[go_sem ↓] theorem aeS {z off:Nat}:sW z 0 off=off:=by simp[sW]
@[go_sem ↓] theorem XI {i:Nat}:sW 1 i 0=i:=by simp[sW]
@[go_sem ↓] theorem aaQ {z i off:Nat}:sW (z+2) i off=i*(z+2)+off:=(rfl)
section
variable {G:List V→Prop} {H:PV→Prop} {J:List PV→Prop} {v:Value} {z:Nat} {l:List (List PV)} {o i off len f:Nat} {us:List V} {u:V}
@[go_sem ↓] theorem ZU:bN (.agg us) G=G us:=(rfl)
@[go_sem ↓] theorem Z4:bN (.lit v) G=G [.lit v]:=(rfl)
@[go_sem ↓] theorem XS:bN (.row z l) G=G [.row z l]:=(rfl)
@[go_sem ↓] theorem YX:bN (.ref o z i off) G=G [.ref o z i off]:=(rfl)
@[go_sem ↓] theorem acp:bN (.sl o z off len) G=G [.sl o z off len]:=(rfl)
@[go_sem ↓] theorem TJ:bN (.rref z l i off) G=G [.rref z l i off]:=(rfl)
@[go_sem ↓] theorem Yo:IJ (.lit v) H=H (.lit v):=(rfl)
@[go_sem ↓] theorem VA:IJ (.rref z l i off) H=H (.ptr z l i off):=(rfl)
@[go_sem ↓] theorem TG:mq [] J=J []:=(rfl)
@[go_sem ↓] theorem PG:mq (u::us) J=IJ u fun p=>mq us fun ps=>J (p::ps):=(rfl)
@[go_sem ↓] theorem aap:V.ofP (.lit v)=.lit v:=(rfl)
@[go_sem ↓] theorem Yg:V.ofP (.row z l)=.row z l:=(rfl)
variable {q:Option Nat} {el:List PV} {cs:List V} {KK:Ob→Prop} {ks:KS} {z':Nat}
@[go_sem ↓] theorem aan:fP (.ref o z i off) σ q F=m7 σ o fun ob=>MB ob z i off q F:=(rfl)
@[go_sem ↓] theorem Tc:fP (.rref z l i off) σ q F=lO l i fun e=>HL e off q F:=(rfl)
@[go_sem ↓] theorem TM:MB (.cells us) z i off none F=lO us (sW z i off) fun u=>F true u:=(rfl)
@[go_sem ↓] theorem R7 {m:Nat}:MB (.cells us) z i off (some m) F=uf us (sW z i off) m fun r=>F true (.agg r):=(rfl)
@[go_sem ↓] theorem Ze:MB (.row z l) z i off q F=lO l i fun e=>HL e off q F:=by simp[MB]
@[go_sem ↓] theorem Tf:HL el off none F=lO el off fun p=>F true (V.ofP p):=(rfl)
@[go_sem ↓] theorem Vm {m:Nat}:HL el off (some m) F=uf el off m fun r=>F true (.agg (r.map V.ofP)):=(rfl)
@[go_sem ↓] theorem aaj:ir (.ref o z i off) σ cs ks=m7 σ o fun ob=>Ll ob z i off cs fun ob'=>ks true (σ.set o (some ob')):=(rfl)
@[go_sem ↓] theorem OT:Ll (.cells us) z i off cs KK=da us (sW z i off) cs fun l'=>KK (.cells l'):=(rfl)
@[go_sem ↓] theorem Jn:Ll (.row z l) z i off cs KK=lO l i fun e=>mq cs fun ps=>da e off ps fun e'=>KK (.row z (l.set i e')):=by simp[Ll]
@[go_sem ↓] theorem Xb {ob:Ob} {G:Nat→St→Prop}:bw σ ob G=G σ.length (σ++[some ob]):=(rfl)
@[go_sem ↓] theorem XU:I8 u σ kv=bN u fun l=>bw σ (.cells l) fun o σ'=>kv true (.ref o 0 0 0) σ':=(rfl)
@[go_sem ↓] theorem PQ {d m:Nat} {G:Nat→Prop}:dW none d m G=G d:=(rfl)
@[go_sem ↓] theorem Nw {d m:Nat} {G:Nat→Prop}:dW (some u) d m G=DS u m G:=(rfl)
@[go_sem ↓] theorem YB {kd:IntKind} {a:Int} {m:Nat} {G:Nat→Prop} (h:0≤a∧a≤m):DS (.lit (.int kd a)) m G=G a.toNat:=by simp[DS,h]
@[go_sem ↓ high] theorem ZD {kd:IntKind} {a:Nat} {m:Nat} {G:Nat→Prop} (h:a≤m):DS (.lit (.int kd (a:Int))) m G=G a:=by simp[DS,h]
variable {R':List (List PV)→Prop} {β:Type} {L:List β} {f:β→List PV}
@[go_sem ↓] theorem UD:gM (.row z l) σ z R'=R' l:=by simp[gM]
@[go_sem ↓] theorem Zb:gM (.sl o z off len) σ z R'=m7 σ o fun ob=>rq ob z off len R':=by simp[gM]
@[go_sem ↓ high] theorem VS (h:off+len≤L.length):rq (.row z (L.map f)) z off len R'=R' (((L.drop off).take len).map f):=by simp[rq,h,aiI,List.map_drop]
@[go_sem ↓ high] theorem aci {e1:List PV}:rq (.row z [e1]) z 0 1 R'=R' [e1]:=by simp[rq]
@[go_sem ↓ high] theorem aaY {e1 e2 e3:List PV}:rq (.row z [e1,e2,e3]) z 0 3 R'=R' [e1,e2,e3]:=by simp[rq]
@[go_sem ↓] theorem TP:eY (.row z l) F=F true (.lit (.int .i64 l.length)):=(rfl)
@[go_sem ↓ high] theorem QV:eY (.row z (L.map f)) F=F true (.lit (.int .i64 L.length)):=by simp[eY]
@[go_sem ↓] theorem Zo:eY (.sl o z off len) F=F true (.lit (.int .i64 len)):=(rfl)
variable {yb:Nat} {m:List (List PV)} {M:List β}
@[go_sem ↓] theorem ZQ:mZ false z yb (.sl o z 0 len) m σ kv=m7 σ o fun ob=>rC ob z yb len o m σ kv:=by simp[mZ]
@[go_sem ↓] theorem YM (h:l.length=len∧(len+m.length)*2*yb≤281474976710656):rC (.row z l) z yb len o m σ kv=bw (σ.set o none) (.row z (l++m)) fun o' σ'=>kv true (.sl o' z 0 (len+m.length)) σ':=by simp[rC,h]
@[go_sem ↓ high] theorem EO (h:L.length=len∧(len+M.length)*2*yb≤281474976710656):rC (.row z (L.map f)) z yb len o (M.map f) σ kv=bw (σ.set o none) (.row z ((L++M).map f)) fun o' σ'=>kv true (.sl o' z 0 (len+M.length)) σ':=by simp[rC,h]
@[go_sem ↓ high] theorem Pp (h:M.length*2*yb≤281474976710656):rC (.row z []) z yb 0 o (M.map f) σ kv=bw (σ.set o none) (.row z (M.map f)) fun o' σ'=>kv true (.sl o' z 0 M.length) σ':=by simp[rC,h]
@[go_sem ↓ high] theorem VT (h:M.length≤len):Bl z (.sl o z off len) (M.map f) σ kv=m7 σ o fun ob=>Gv ob z o off len (M.map f) σ kv:=by simp[Bl,h]
@[go_sem ↓ high] theorem WR (h:off+len≤L.length):Gv (.row z (L.map f)) z o off len (M.map f) σ kv=kv true (.lit (.int .i64 M.length)) (σ.set o (some (.row z ((L.take off++M++L.drop (off+M.length)).map f)))):=by simp[Gv,h,aiI,List.map_drop]
@[go_sem ↓] theorem oD {C:List Value} {a b:Int} (h:0≤a∧a=b∧a*yb≤140737488355328∧a<4611686018427387904∧0<yb) (hC:C.length=z):jm z yb C (.lit (.int .i64 a)) (.lit (.int .i64 b)) σ kv=aB C (bw σ (.row z (dy C a.toNat)) fun o σ'=>kv true (.sl o z 0 a.toNat) σ'):=by
 unfold jm;simp only;rw[if_pos ⟨h.1,h.2.1,h.2.2.1,h.2.2.2.1,h.2.2.2.2,hC⟩]
def ie (kd:IntKind) (x:Int):List PV:=[.lit (.int kd x)]
section
variable {s t:TypeId}
end
def be (b:Bool):List PV:=[.lit (.bool b)]
@[go_sem] theorem aeA {kd:IntKind} {x:Int}:ie kd x=[.lit (.int kd x)]:=(rfl)
@[go_sem ↓ high] theorem FY {kd:IntKind} {A:List Int} {G:List PV→Prop} (h:i<A.length):lO (A.map (ie kd)) i G=G [.lit (.int kd (A.getD i 0))]:=zP h
@[go_sem ↓ high] theorem Tq {A:List Bool} {G:List PV→Prop} (h:i<A.length):lO (A.map be) i G=G [.lit (.bool (A.getD i false))]:=zP h
theorem NH {kd:IntKind} {A:List Int} {x:Int}:(A.map (ie kd)).set i [PV.lit (.int kd x)]=(A.set i x).map (ie kd):=by rw[List.map_set];rfl
@[go_sem ↓] theorem SB {kd:IntKind} {x:Int} {m:Nat}:dy [.int kd x] m=(List.replicate m x).map (ie kd):=by simp[dy,ie]
@[go_sem ↓ high] theorem Ug {kd:IntKind} {A:List Int} {x:Int} (h:i<A.length):Ll (.row 1 (A.map (ie kd))) 1 i 0 [.lit (.int kd x)] KK=KK (.row 1 ((A.set i x).map (ie kd))):=by
 rw[Jn,FY h];simp only[mq,IJ];rw[t8 (by simp)];simp only[aiC];rw[NH]
@[go_sem ↓ high] theorem aaZ {kd:IntKind} {A:List Int} {x:Int} (h:A.length=len∧(len+1)*2*yb≤281474976710656):rC (.row 1 (A.map (ie kd))) 1 yb len o [[PV.lit (.int kd x)]] σ kv=bw (σ.set o none) (.row 1 ((A++[x]).map (ie kd))) fun o' σ'=>kv true (.sl o' 1 0 (len+1)) σ':=EO (M:=[x]) h
end
section
variable {q:Option Nat} {u v:V} {ks:KS} {o z i off len j m y:Nat} {l:List (List PV)} {us:List V} {ag:Bool} {kd:IntKind} {a:Int} {et ex:TypeId} {β:Type} {L:List β} {f:β→List PV}
theorem aQ (h:yH P t=some q):eW P t u σ F=fP u σ q F:=by simp[eW,h]
theorem bc (h:cz P t=some (m+1)):fJ P t u v σ ks=bN v fun c=>aI c (m+1) (ir u σ c ks):=by simp[fJ,h]
theorem an {x:Nat} (h:Ci P t j=some (x,ag,m)):aJ P t (.ref o z i off) j F=F true (.ref o z i (off+x)):=by simp[aJ,h]
theorem bm {x:Nat} (h:Ci P t j=some (x,ag,m)):aJ P t (.rref z l i off) j F=F true (.rref z l i (off+x)):=by simp[aJ,h]
theorem tB (h:eP P t=some (et,z)) (hm:0≤a∧a<len):cE P t (.sl o z off len) (.lit (.int kd a)) F=F true (.ref o z (off+a.toNat) 0):=by simp[cE,h,xa,hm]
theorem lS (h:eP P t=some (et,z)) (hm:m<len):cE P t (.sl o z off len) (.lit (.int kd (m:Int))) F=F true (.ref o z (off+m) 0):=by simp[cE,h,xa,hm]
theorem vW (h:eP P t=some (et,z)) (hz:0<z) (hm:0≤a∧a<l.length):cE P t (.row z l) (.lit (.int kd a)) F=F true (.rref z l a.toNat 0):=by simp[cE,h,xa,hm,hz]
theorem dk (h:eP P t=some (et,z)) (hz:0<z) (hm:m<l.length):cE P t (.row z l) (.lit (.int kd (m:Int))) F=F true (.rref z l m 0):=by simp[cE,h,xa,hm,hz]
theorem kz (h:eP P t=some (et,z)) (hz:0<z) (hm:0≤a∧a<L.length):cE P t (.row z (L.map f)) (.lit (.int kd a)) F=F true (.rref z (L.map f) a.toNat 0):=by simp[cE,h,xa,hm,hz]
theorem ID (h:uC P t=some (len,et,z)) (hm:0≤a∧a<len):cE P t (.ref o 0 0 off) (.lit (.int kd a)) F=F true (.ref o z a.toNat off):=by simp[cE,h,xa,hm]
theorem G2 (h:uC P t=some (len,et,z)) (hm:m<len):cE P t (.ref o 0 0 off) (.lit (.int kd (m:Int))) F=F true (.ref o z m off):=by simp[cE,h,xa,hm]
theorem DZ {s:ByteArray} (h:isStr P t=true) (hm:0≤a∧a<s.size):t9 P t (.lit (.string s)) (.lit (.int kd a)) F=F true (.lit (.int .u8 (pD s a.toNat))):=by simp[t9,h,xa,hm]
variable {lo hi mx:Option V}
@[go_sem ↓] theorem WW {lo hi mx:Option V}:yp P t (.sl o z off len) lo hi mx σ F=lX P t (.sl o z off len) lo hi mx F:=by cases mx<;>rfl
@[go_sem ↓] theorem Su {lo hi mx:Option V} {ll:List (List PV)}:yp P t (.row z ll) lo hi mx σ F=lX P t (.row z ll) lo hi mx F:=by cases mx<;>rfl
theorem H3 (h:eP P t=some (et,z)):lX P t (.sl o z off len) lo hi none F=dW hi len len fun h=>dW lo 0 h fun l=>F true (.sl o z (off+l) (h-l)):=by simp[lX,GV,h]
theorem rZ (h:eP P t=some (et,z)):lX P t (.row z (L.map f)) lo hi none F=dW hi L.length L.length fun h=>dW lo 0 h fun x=>F true (.row z (((L.take h).drop x).map f)):=by simp[lX,GV,h,aiI,List.map_drop]
theorem dD (h:(eP P t).isSome=true):ec P e .len [t] [.row y l] σ kv=eY (.row y l) fun τ v=>kv τ v σ:=by
 obtain ⟨ez,h⟩:=ahR.1 h;simp[ec,v8,h]
theorem km (h:(eP P t).isSome=true):ec P e .len [t] [.sl o y off len] σ kv=eY (.sl o y off len) fun τ v=>kv τ v σ:=by
 obtain ⟨ez,h⟩:=ahR.1 h;simp[ec,v8,h]
theorem eS (h:(jy P s).isSome=true):fN P s t u σ F=lT P s t u F:=by
 unfold fN;rw[if_neg];rintro ⟨h1,_⟩;unfold jy at h;unfold wT at h1
 cases hq:P.underlying s with
 | none=>rw[hq] at h1;cases h1
 | some d=>rw[hq] at h h1;cases d<;>first | (simp at h;done) | (simp at h1;done)
theorem fD {bo:BinOp} {fk:List Bool} {vs:List V} (h:JL P t=some fk):aL P bo t (.agg us) (.agg vs) F=jE fk us vs fun r=>dp (w9 bo r) F:=by simp[aL,h]
@[go_sem ↓] theorem SZ {r:Bool}:dp (w9 .eql r) F=F true (.lit (.bool r)):=by cases r<;>rfl
@[go_sem ↓] theorem Vl {r:Bool}:dp (w9 .neq r) F=F true (.lit (.bool !r)):=by cases r<;>rfl
@[go_sem ↓] theorem aai {G:Bool→Prop}:jE [] [] [] G=G true:=(rfl)
@[go_sem ↓] theorem Zt {fk:List Bool} {us vs:List V} {x y:Int} {G:Bool→Prop}:jE (true::fk) (.lit (.int kd x)::us) (.lit (.int kd y)::vs) G=jE fk us vs fun r=>G (decide (x=y)&&r):=by simp[jE]
@[go_sem ↓] theorem UN {fk:List Bool} {us vs:List V} {x y:Bool} {G:Bool→Prop}:jE (false::fk) (.lit (.bool x)::us) (.lit (.bool y)::vs) G=jE fk us vs fun r=>G ((x==y)&&r):=by simp[jE]
theorem NI {s:List UInt8}:ByteArray.mk s.toArray=bs s:=(rfl)
attribute [go_sem] NI Bool.and_true Bool.true_and Bool.and_false Bool.false_and Bool.not_true Bool.not_false
theorem fU {C:List Value} (h:eP P t=some (et,z)) (hx:eP P s=some (ex,z)) (hC:fR P et=some C) (hy:rN P et=some y) (h0:0<y) (hz:C.length=z):lG P e t s u v σ kv=gM v σ z fun m=>mZ e z y u m σ kv:=by simp[lG,h,hx,hC,hy,h0,hz]
theorem Jj (h:eP P t=some (et,z)) (hx:eP P s=some (ex,z)):ya P t s u v σ kv=gM v σ z fun m=>Bl z u m σ kv:=by simp[ya,h,hx]
theorem mj {C:List Value} (h:eP P t=some (et,z)) (hC:fR P et=some C) (hy:rN P et=some y):nO P t u v σ kv=jm z y C u v σ kv:=by simp[nO,h,hC,hy]
theorem bE {C:List Value} (h:fR P t=some C):dx P t σ kv=aB C (bw σ (.cells (C.map V.lit)) fun o σ'=>kv true (.ref o 0 0 0) σ'):=by simp[dx,h]
theorem bA {C:List Value} {ps:List (Nat×V)} (h:fR P t=some C) (hg:N1 P t=true) (hs:szs P t=true):dA P t ps F=aB C (av (aF P t) ps (C.map V.lit) fun l=>F true (.agg l)):=by simp[dA,h,hg,hs]
theorem au {pl:Nat→Option (Nat×Nat)} {r:List (Nat×V)} {us:List V} {G:List V→Prop} {x:Nat} (h:pl j=some (x,m)):av pl ((j,u)::r) us G=bN u fun c=>aI c m (da us x c fun l'=>av pl r l' G):=by simp[av,h]
@[go_sem ↓] theorem RY {pl:Nat→Option (Nat×Nat)} {us:List V} {G:List V→Prop}:av pl [] us G=G us:=(rfl)
theorem cO {ps:List (Nat×V)} (h:eP P t=some (et,z)) (hz:(fR P et).isSome=true∧0<z∧n*z≤16777216):fW P t n ps σ kv=eQ z 0 ps fun l=>aI l n (bw σ (.row z l) fun o σ'=>kv true (.sl o z 0 n) σ'):=by simp[fW,h,hz.1,hz.2.1,hz.2.2]
@[go_sem ↓] theorem U2 {G:List (List PV)→Prop}:eQ z j [] G=G []:=(rfl)
@[go_sem ↓] theorem P9 {r:List (Nat×V)} {G:List (List PV)→Prop}:eQ z j ((j,u)::r) G=bN u fun c=>aI c z (mq c fun e=>eQ z (j+1) r fun es=>G (e::es)):=by simp[eQ]
end
@[go_sem] theorem YU {o:Nat}:lP [] o=true:=(rfl)
@[go_sem] theorem SY {p o:Nat} {π:Pi}:lP (some p::π) o=if p=o then false else lP π o:=by
 unfold lP
 by_cases h:p=o
 · subst h;simp
 · rw[if_neg h]
   have:¬(some o=some p):=fun e=>h (Option.some.inj e).symm
   simp[this]
@[go_sem] theorem Tl {p o:Nat} {F:List Nat}:List.contains (p::F) o=if p=o then true else List.contains F o:=by
 by_cases h:p=o
 · subst h;simp
 · rw[if_neg h]
   have:¬o=p:=fun e=>h e.symm
   simp[this]
section
variable {ok:Nat→Bool} {u:V} {m o z z' i i' off off' len z'':Nat} {l l' L:List (List PV)} {us:List V} {ps:List PV} {p:PV} {f:V→PV→Prop} {v v':Value}
@[go_sem ↓] theorem Zp:DQ ok σ (m+1) (.ref o z' i' off') (.ptr z l i off)=(ok o=true∧m7 σ o fun ob=>tO (DQ ok σ m) z l i off z' i' off' ob):=(rfl)
@[go_sem ↓] theorem abH:DQ ok σ (m+1) (.sl o z off len) (.row z' l)=(z'=z∧ok o=true∧m7 σ o fun ob=>tR (DQ ok σ m) z off len l ob):=(rfl)
@[go_sem ↓] theorem Zm:DQ ok σ m (.lit v) (.lit v')=(v'=v):=by cases m<;>rfl
@[go_sem ↓] theorem XH:DQ ok σ m (.row z l) (.row z' l')=(z'=z∧l'=l):=by cases m<;>rfl
@[go_sem ↓] theorem ZA:DW f [] []=True:=(rfl)
@[go_sem ↓] theorem To:DW f (u::us) (p::ps)=(f u p∧DW f us ps):=(rfl)
@[go_sem ↓] theorem O8:tO f z [ps] i off z' i' off' (.cells us)=(z=ps.length∧i=0∧off=sW z' i' off'∧DW f us ps):=(rfl)
@[go_sem ↓] theorem aaq:Lz f z us []=True:=by unfold Lz;rfl
@[go_sem ↓] theorem SH:Lz f z us (ps::l)=(z≤us.length∧DW f (us.take z) ps∧Lz f z (us.drop z) l):=(rfl)
@[go_sem ↓] theorem ab3:tR f z off len l (.row z'' L)=tE (.row z'' L) z off len l:=(rfl)
@[go_sem ↓] theorem VX:tR f z off len l (.cells us)=(off=0∧l.length=len∧Lz f z us l):=(rfl)
end
attribute [go_sem] V.ofP mV rn mO mE mG tE kS qO D6 wc ur rH xb kill qy iw jz rF
end
def uQ {X:Type} (k:Nat) (st:X→Vg×St) (inv:X→Prop) (m:X→Nat) (x:X) (ρ:Vg) (σ:St):Prop:=∃x' π,H2 k π (st x').1 (st x').2 ρ σ∧inv x'∧m x'<m x
theorem aG {X:Type} {k:Nat} {st:X→Vg×St} {inv:X→Prop} {m:X→Nat} {x:X} {ρ:Vg} {σ:St} (x':X) (π:Pi) (h1:(Ch π (st x').2&&rL k π)=true) (h2:mE (lP π) π σ (st x').2 π) (h3:mG (lP π) π σ (st x').1 ρ) (hi:inv x') (hm:m x'<m x):uQ k st inv m x ρ σ:=⟨x',π,⟨h1,h2,h3⟩,hi,hm⟩
theorem aM {X:Type} {k:Nat} {body:Vg→St→fI→Prop} {ρ:Vg} {σ:St} {Q:fI} (st:X→Vg×St) (inv:X→Prop) (m:X→Nat) (x₀:X) (π:Pi) (h1:(Ch π (st x₀).2&&rL k π)=true) (h2:mE (lP π) π σ (st x₀).2 π) (h3:mG (lP π) π σ (st x₀).1 ρ) (hi:inv x₀)
 (round:∀x,inv x→body (st x).1 (st x).2 (kY (fun _=>uQ k st inv m x) Q)):vQ k body ρ σ Q:=by
 refine⟨fun c ρ σ=>∃x,c=m x∧(ρ,σ)=st x∧inv x,⟨_,π,(st x₀).1,(st x₀).2,⟨h1,h2,h3⟩,x₀,rfl,rfl,hi⟩,?_⟩;rintro c ρ σ ⟨x,rfl,e,hx⟩;have e1:(st x).1=ρ:=by rw[←e]
 have e2:(st x).2=σ:=by rw[←e]
 have:=round x hx
 rw[e1,e2] at this
 have e:(kY (fun _=>uQ k st inv m x) Q)=kY (fun _ ρ' σ'=>∃m' π ρ₀ σ₀,m'<m x∧H2 k π ρ₀ σ₀ ρ' σ'∧∃y,m'=m y∧(ρ₀,σ₀)=st y∧inv y) Q:=by
  funext τ e ρ σ
  cases e with
  | normal=>
    refine propext ⟨?_,?_⟩
    · rintro ⟨x',π,h1,h2,h3⟩;exact⟨_,π,_,_,h3,h1,x',rfl,rfl,h2⟩
    · rintro ⟨_,π,ρ₀,σ₀,h3,h1,x',rfl,e,h2⟩
      refine⟨x',π,?_,h2,h3⟩;rw[←e];exact h1
  | _=>rfl
 rw[←e];exact this
theorem kM {k:Nat} {Q:V→St→Prop} {u:V} {s:St} (π:Pi) (u₀:V) (s₀:St) (h1:(Ch π s₀&&rL k π)=true) (h2:mE (lP π) π s s₀ π) (h3:mV (lP π) π s u₀ u) (hq:Q u₀ s₀):rA k Q u s:=⟨π,u₀,s₀,⟨h1,h2,h3⟩,hq⟩
section
variable {P:Program}
theorem MV {f:FuncId} {fn:Func} {c:Code} {vs:List V} {σ:St} {r:V} {s:St} (pl:aH) (hm:P.follows .mixedOrders=true) (hcf:∀(args:Array Value) (w:World),(callFunc f args).run P w=.ok (.enter f args) w)
 (hf:P.funcs[f]? =some fn) (hb:fn.body=some c) (hc:chk fn.ntmps pl c=true) (hs:Nat.ble vs.length fn.ntmps=true) (rs:List ResultVar) (hr:fn.results.toList=rs)
 (h:∀Q:V→St→Prop,Q r s→dJ true P σ.length pl c (Dj 0 vs) σ (po P rs (rA σ.length Q))):aC P f vs σ r s:=
 K4 pl hm hcf hf hb hc hs rs hr (h _ ⟨rfl,rfl⟩)
theorem Et {e:Bool} {f:FuncId} {vs vs₀:List V} {σ σ₀ s:St} {r:V} {K:KV} (π:Pi) (F:List Nat) (spec:aC P f vs₀ σ₀ r s)
 (h1:(O2 π&&π.all (fun p=>match p with | some p=>decide (p<σ.length)&&!F.contains p | none=>true))=true) (h2:mE F.contains π σ σ₀ π) (h3:rn F.contains π σ vs₀ vs) (he:e=true→σ₀=[])
 (hk:K true (kS (ur (iw σ.length π) (σ.length+jz π)) r) (qy π F σ s)):dv P e f vs σ K:=
 uB π F spec ⟨h1,h2,h3⟩ he fun u s ⟨h4,h5⟩=>by rw[h4,h5];exact hk
def kW:V→Bool
 | .lit _=>true
 | .row _ _=>true
 | .xrow _ _=>true
 | .rref _ _ _ _=>true
 | .agg l=>plnL l
 | .tup l=>plnL l
 | .clo _ l=>plnL l
 | _=>false
where plnL:List V→Bool
 | []=>true
 | v::vs=>kW v&&plnL vs
mutual
theorem NJ {ok:Nat→Bool} {π:Pi} {σ:St}:∀{v:V},kW v=true→mV ok π σ v v
 | .lit _,_=>by simp[mV]
 | .row _ _,_=>by simp[mV]
 | .xrow _ _,_=>by simp[mV]
 | .rref _ _ _ _,_=>by simp[mV]
 | .agg l,h=>by simp only[mV];exact ki h
 | .tup l,h=>by simp only[mV];exact ki h
 | .clo f l,h=>by simp only[mV];exact⟨trivial,ki h⟩
 | .ref _ _ _ _,h=>by simp[kW] at h
 | .sl _ _ _ _,h=>by simp[kW] at h
theorem ki {ok:Nat→Bool} {π:Pi} {σ:St}:∀{vs:List V},kW.plnL vs=true→rn ok π σ vs vs
 | [],_=>by simp[rn]
 | v::vs,h=>by
   simp only[kW.plnL,agv] at h;simp only[rn];exact⟨NJ h.1,ki h.2⟩
end
mutual
theorem wP {f:Nat→Nat}:∀{v:V},kW v=true→kS f v=v
 | .lit _,_=>rfl
 | .row _ _,_=>rfl
 | .xrow _ _,_=>rfl
 | .rref _ _ _ _,_=>rfl
 | .agg l,h=>by simp only[kS];rw[m5 h]
 | .tup l,h=>by simp only[kS];rw[m5 h]
 | .clo f l,h=>by simp only[kS];rw[m5 h]
 | .ref _ _ _ _,h=>by simp[kW] at h
 | .sl _ _ _ _,h=>by simp[kW] at h
theorem m5 {f:Nat→Nat}:∀{vs:List V},kW.plnL vs=true→qO f vs=vs
 | [],_=>rfl
 | v::vs,h=>by
   simp only[kW.plnL,agv] at h;simp only[qO,wP h.1,m5 h.2]
end
theorem az {e:Bool} {f:FuncId} {vs:List V} {σ:St} {r:V} {K:KV} (spec:aC P f vs [] r []) (hv:kW.plnL vs=true) (hr:kW r=true) (hk:K true r σ):dv P e f vs σ K:=by
 refine Et (σ₀:=[]) [] [] spec rfl (by simp[mE]) (ki hv) (fun _=>rfl) ?_;rw[wP hr];simpa [qy,rF,jz,iw,kill,xb,rH] using hk
end
end Go.Vx
