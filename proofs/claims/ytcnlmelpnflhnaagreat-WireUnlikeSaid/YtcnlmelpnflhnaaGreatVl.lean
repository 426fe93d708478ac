import Derived.Test.YtcnlmelpnflhnaaGreatE5
namespace Go.Vx
open Go.Eng
set_option linter.unusedSimpArgs false
set_option linter.unusedVariables false
section
variable {P:Program} {k n:Nat} {pl:aI} {ρ:Vg} {σ:St} {Q:gn} {K:KR} {e:Bool}
@[go_sem ↓] theorem RT:ei true P k pl .skip ρ σ Q=Q true .normal ρ σ:=(rfl)
@[go_sem ↓] theorem NL {id:Nat} {l:List Oper}:ei true P k pl (.region id l.toArray false) ρ σ Q=opsV true P l.toArray l ρ σ fun τ=>Q τ .normal:=(rfl)
@[go_sem ↓] theorem Uh {id:Nat} {l:List Oper}:ei true P k pl (.region id l.toArray true) ρ σ Q=bY true P l.toArray (pl id) ρ σ fun τ=>Q τ .normal:=(rfl)
@[go_sem ↓] theorem Xd {a b:Code}:ei true P k pl (.seq a b) ρ σ Q=ei true P k pl a ρ σ (mc (fun τ ρ' σ'=>ei τ P k pl b ρ' σ' Q) Q):=(rfl)
@[go_sem ↓] theorem Ty {c:Operand} {a b:Code}:ei true P k pl (.cond c a b) ρ σ Q=cq ρ c fun v=>Ai v (fun τ=>ei τ P k pl a ρ σ Q) (fun τ=>ei τ P k pl b ρ σ Q):=(rfl)
@[go_sem ↓] theorem PR {id:Nat} {c:Code}:ei true P k pl (.block id c) ρ σ Q=ei true P k pl c ρ σ (ov id Q):=(rfl)
@[go_sem ↓] theorem Ta {c:Code}:ei true P k pl (.loop c) ρ σ Q=xZ k (ei true P k pl c) ρ σ Q:=(rfl)
@[go_sem ↓] theorem TV {id:Nat}:ei true P k pl (.exit id) ρ σ Q=Q true (.exit id) ρ σ:=(rfl)
@[go_sem ↓] theorem Xt:ei true P k pl .ret ρ σ Q=Q true .ret ρ σ:=(rfl)
@[go_sem ↓] theorem Rf {c:Code}:ei true P k pl (.scope c) ρ σ Q=ei true P k pl c ρ σ (AX Q):=(rfl)
@[go_sem ↓] theorem Pu {l:Nat}:ei true P k pl (.label l) ρ σ Q=Q true .normal ρ σ:=(rfl)
@[go_sem ↓] theorem Ps:AX Q true .ret ρ σ=Q true .ret ρ σ:=(rfl)
@[go_sem ↓] theorem La:mc K Q true .normal ρ σ=K true ρ σ:=(rfl)
@[go_sem ↓] theorem QN {i:Nat}:mc K Q true (.exit i) ρ σ=Q true (.exit i) ρ σ:=(rfl)
@[go_sem ↓] theorem UZ:mc K Q true .ret ρ σ=Q true .ret ρ σ:=(rfl)
@[go_sem ↓] theorem Kk {id:Nat}:ov id Q true .normal ρ σ=Q true .normal ρ σ:=(rfl)
@[go_sem ↓] theorem Oy {id i:Nat}:ov id Q true (.exit i) ρ σ=if i=id then Q true .normal ρ σ else Q true (.exit i) ρ σ:=(rfl)
@[go_sem ↓] theorem PM {id:Nat}:ov id Q true .ret ρ σ=Q true .ret ρ σ:=(rfl)
variable {rs:List ResultVar} {R:V→St→Prop} {KV':List V→Prop}
@[go_sem ↓] theorem KU:qA P rs R true .normal ρ σ=dt P rs ρ σ fun vs=>R (my vs) σ:=(rfl)
@[go_sem ↓] theorem SV:qA P rs R true .ret ρ σ=dt P rs ρ σ fun vs=>R (my vs) σ:=(rfl)
@[go_sem ↓] theorem Ll:dt P [] ρ σ KV'=KV' []:=(rfl)
@[go_sem ↓] theorem Lq {t:Nat}:dt P (.tmp t::rs) ρ σ KV'=j5 ρ t fun v=>dt P rs ρ σ fun vs=>KV' (v::vs):=(rfl)
@[go_sem ↓] theorem JT {t ty:Nat}:dt P (.cell t ty::rs) ρ σ KV'=j5 ρ t fun p=>fe P ty p σ fun _ v=>dt P rs ρ σ fun vs=>KV' (v::vs):=(rfl)
@[go_sem ↓] theorem R7 (v:V):my [v]=v:=(rfl)
@[go_sem ↓] theorem Sx (v u:V):my [v,u]=.tup [v,u]:=(rfl)
@[go_sem ↓] theorem OZ (v u x:V):my [v,u,x]=.tup [v,u,x]:=(rfl)
@[go_sem ↓] theorem Pz:my []=.tup []:=(rfl)
@[go_sem ↓] theorem aae {i:Nat}:Fs i []=[]:=(rfl)
@[go_sem ↓] theorem Xf {i:Nat} {v:V} {r:List V}:Fs i (v::r)=(i,v)::Fs (i+1) r:=(rfl)
variable {KO:V→Prop}
@[go_sem ↓] theorem I3 {s t:Nat} {v:V} {r:Vg}:j5 ((s,v)::r) t KO=if s=t then KO v else j5 r t KO:=by
 unfold j5;rw[iz]
 by_cases h:s=t
 · rw[if_pos h,if_pos h]
 · rw[if_neg h,if_neg h]
@[go_sem ↓] theorem aev {i t:Nat} {v:V} {r:List V}:j5 (Fs i (v::r)) t KO=if i=t then KO v else j5 (Fs (i+1) r) t KO:=I3
@[go_sem ↓] theorem adx {t:Nat}:cq ρ (.tmp t) KO=j5 ρ t KO:=(rfl)
@[go_sem ↓] theorem RC {v:Value}:cq ρ (.const v) KO=qJ v KO:=(rfl)
@[go_sem ↓] theorem Vt {f:Nat}:cq ρ (.func f) KO=KO (.clo f []):=(rfl)
@[go_sem ↓] theorem YJ {i:IntKind} {a:Int}:qJ (.int i a) KO=KO (.lit (.int i a)):=(rfl)
@[go_sem ↓] theorem SN {b:Bool}:qJ (.bool b) KO=KO (.lit (.bool b)):=(rfl)
@[go_sem ↓] theorem OT {s:ByteArray}:qJ (.string s) KO=KO (.lit (.string s)):=(rfl)
@[go_sem ↓] theorem LW {a:Option Addr}:qJ (.pointer a) KO=KO (.lit (.pointer a)):=(rfl)
@[go_sem ↓] theorem Ra {a:Option Addr} {l c:Nat}:qJ (.slice a l c) KO=KO (.lit (.slice a l c)):=(rfl)
@[go_sem ↓] theorem JW:qJ .nilIface KO=KO (.lit .nilIface):=(rfl)
@[go_sem ↓] theorem YE:j8 ρ [] KV'=KV' []:=(rfl)
@[go_sem ↓] theorem Rq {x:Operand} {xs:List Operand}:j8 ρ (x::xs) KV'=cq ρ x fun v=>j8 ρ xs fun vs=>KV' (v::vs):=(rfl)
variable {KP:List (Nat×V)→Prop} {KM:Option V→Prop}
@[go_sem ↓] theorem Yg:sE ρ [] KP=KP []:=(rfl)
@[go_sem ↓] theorem Rs {i:Nat} {x:Operand} {xs:List (Nat×Operand)}:sE ρ ((i,x)::xs) KP=cq ρ x fun v=>sE ρ xs fun vs=>KP ((i,v)::vs):=(rfl)
@[go_sem ↓] theorem UL:jD ρ none KM=KM none:=(rfl)
@[go_sem ↓] theorem Tp {x:Operand}:jD ρ (some x) KM=cq ρ x fun v=>KM (some v):=(rfl)
@[go_sem ↓] theorem UH {d:Nat} {v:V}:bq ρ (some d) v=(d,v)::ρ:=(rfl)
@[go_sem ↓] theorem Ut {v:V}:bq ρ none v=ρ:=(rfl)
variable {all r:List Oper} {d:Option Nat} {dn:Nat} {op:Op} {ty t s:TypeId} {pos:String} {af:Array Edge} {g:Option (Nat×Bool)} {kv:KV} {F:FV}
@[go_sem ↓] theorem ZG:opsV true P all.toArray [] ρ σ K=K true ρ σ:=(rfl)
@[go_sem ↓] theorem SG:opsV true P all.toArray (⟨some dn,op,ty,pos,af,none⟩::r) ρ σ K=eI true false P ⟨some dn,op,ty,pos,af,none⟩ ρ σ fun τ v σ'=>opsV τ P all.toArray r ((dn,v)::ρ) σ' K:=(rfl)
@[go_sem ↓] theorem UM:opsV true P all.toArray (⟨none,op,ty,pos,af,none⟩::r) ρ σ K=eI true false P ⟨none,op,ty,pos,af,none⟩ ρ σ fun τ _ σ'=>opsV τ P all.toArray r ρ σ' K:=(rfl)
@[go_sem ↓] theorem FY {j:Nat} {want:Bool}:opsV true P all.toArray (⟨some dn,op,ty,pos,af,some (j,want)⟩::r) ρ σ K=
 tD all j fun t=>j5 ρ t fun g=>og g want (fun τ=>eI τ false P ⟨some dn,op,ty,pos,af,some (j,want)⟩ ρ σ fun τ v σ'=>opsV τ P all.toArray r ((dn,v)::ρ) σ' K) (fun τ=>opsV τ P all.toArray r ((dn,.tup [])::ρ) σ K):=by
 rw[vG];simp only[opsV,akr]
 rfl
@[go_sem ↓] theorem Xe:bY true P all.toArray [] ρ σ K=K true ρ σ:=(rfl)
@[go_sem ↓] theorem aey {i q:Nat} {S:List (Nat×Nat×Nat)}:bY true P all.toArray ((i,0,q)::S) ρ σ K=bR all i fun o=>gG true P all.toArray o ρ σ 0 fun τ ρ' σ'=>bY τ P all.toArray S ρ' σ' K:=(rfl)
@[go_sem ↓] theorem agv {i q:Nat} {S:List (Nat×Nat×Nat)}:bY true P all.toArray ((i,1,q)::S) ρ σ K=bR all i fun o=>gG true P all.toArray o ρ σ 1 fun τ ρ' σ'=>bY τ P all.toArray S ρ' σ' K:=(rfl)
@[go_sem ↓] theorem afj {i q:Nat} {S:List (Nat×Nat×Nat)}:bY true P all.toArray ((i,2,q)::S) ρ σ K=bR all i fun o=>gG true P all.toArray o ρ σ 2 fun τ ρ' σ'=>bY τ P all.toArray S ρ' σ' K:=(rfl)
@[go_sem ↓] theorem agw {i q:Nat} {S:List (Nat×Nat×Nat)}:bY true P all.toArray ((i,3,q)::S) ρ σ K=bR all i fun o=>eI true true P o ρ σ fun τ u σ'=>bY τ P all.toArray S (bq ρ o.dst u) σ' K:=(rfl)
@[go_sem ↓] theorem agB {i q:Nat} {S:List (Nat×Nat×Nat)}:bY true P all.toArray ((i,4,q)::S) ρ σ K=bR all i fun o=>NR ρ o.dst (eI true true P o ρ σ fun τ _ _=>bY τ P all.toArray S ρ σ K):=(rfl)
@[go_sem ↓] theorem af8 {i q:Nat} {S:List (Nat×Nat×Nat)}:bY true P all.toArray ((i,5,q)::S) ρ σ K=bR all i fun o=>iL true P o ρ fun τ u=>bY τ P all.toArray S (bq ρ o.dst u) σ K:=(rfl)
@[go_sem ↓] theorem agJ {i q:Nat} {S:List (Nat×Nat×Nat)}:bY true P all.toArray ((i,8,q)::S) ρ σ K=bR all i fun o=>bR all q fun p=>eI true true P o ρ σ fun τ u _=>eI τ false P p ρ σ fun τ _ σ1=>eI τ true P o ρ σ1 fun τ u2 _=>sI u2 u (bY τ P all.toArray S (bq ρ o.dst u) σ1 K):=(rfl)
@[go_sem ↓] theorem TN {S:List (Nat×Nat×Nat)} {rm:Nat}:bB P all.toArray S 0 rm true ρ σ K=K true ρ σ:=(rfl)
@[go_sem ↓] theorem SK {u:V} {p:Prop}:sI u u p=p:=by simp[sI]
@[go_sem ↓] theorem aan {q:Nat} {p:Prop}:NR [] (some q) p=p:=(rfl)
@[go_sem ↓] theorem VI {q s:Nat} {u:V} {p:Prop} (h:s≠q):NR ((s,u)::ρ) (some q) p=NR ρ (some q) p:=by simp[NR,iz,h]
@[go_sem ↓] theorem Qh {tag:Nat}:gG true P all.toArray ⟨some dn,op,ty,pos,af,none⟩ ρ σ tag K=cG true P ⟨some dn,op,ty,pos,af,none⟩ ρ σ tag fun τ v σ'=>K τ ((dn,v)::ρ) σ':=(rfl)
@[go_sem ↓] theorem Rc {tag:Nat}:gG true P all.toArray ⟨none,op,ty,pos,af,none⟩ ρ σ tag K=cG true P ⟨none,op,ty,pos,af,none⟩ ρ σ tag fun τ _ σ'=>K τ ρ σ':=(rfl)
@[go_sem ↓] theorem Ez {tag j:Nat} {want:Bool}:gG true P all.toArray ⟨some dn,op,ty,pos,af,some (j,want)⟩ ρ σ tag K=
 tD all j fun t=>j5 ρ t fun g=>og g want (fun τ=>cG τ P ⟨some dn,op,ty,pos,af,some (j,want)⟩ ρ σ tag fun τ v σ'=>K τ ((dn,v)::ρ) σ') (fun τ=>K τ ((dn,.tup [])::ρ) σ):=by
 rw[vG];simp only[gG,akr]
 rfl
@[go_sem ↓] theorem RH {o:Oper}:cG true P o ρ σ 0 kv=na true P o ρ σ fun τ v=>kv τ v σ:=(rfl)
@[go_sem ↓] theorem X7 {o:Oper}:cG true P o ρ σ 1 kv=eI true true P o ρ σ kv:=(rfl)
@[go_sem ↓] theorem Y8 {o:Oper}:cG true P o ρ σ 2 kv=eI true false P o ρ σ kv:=(rfl)
section
variable {A B:Bool→Prop} {p:Prop} [Decidable p]
@[go_sem ↓] theorem aeO:og (.lit (.bool true)) true A B=A true:=(rfl)
@[go_sem ↓] theorem afK:og (.lit (.bool false)) false A B=A true:=(rfl)
@[go_sem ↓] theorem afd:og (.lit (.bool true)) false A B=B true:=(rfl)
@[go_sem ↓] theorem agL:og (.lit (.bool false)) true A B=B true:=(rfl)
@[go_sem ↓] theorem TX {want:Bool}:og (.tup []) want A B=B true:=(rfl)
@[go_sem ↓] theorem Xx (h:p):og (.lit (.bool (decide p))) true A B=A true:=by simp[og,h]
@[go_sem ↓] theorem XL (h:¬p):og (.lit (.bool (decide p))) true A B=B true:=by simp[og,h]
@[go_sem ↓] theorem VW (h:p):og (.lit (.bool (decide p))) false A B=B true:=by simp[og,h]
@[go_sem ↓] theorem VZ (h:¬p):og (.lit (.bool (decide p))) false A B=A true:=by simp[og,h]
@[go_sem ↓] theorem Uc (h:p):og (.lit (.bool (!decide p))) true A B=B true:=by simp[og,h]
@[go_sem ↓] theorem SY (h:¬p):og (.lit (.bool (!decide p))) true A B=A true:=by simp[og,h]
@[go_sem ↓] theorem Ui (h:p):og (.lit (.bool (!decide p))) false A B=A true:=by simp[og,h]
@[go_sem ↓] theorem Tf (h:¬p):og (.lit (.bool (!decide p))) false A B=B true:=by simp[og,h]
@[go_sem ↓] theorem Zp:Ai (.lit (.bool true)) A B=A true:=by simp[Ai]
@[go_sem ↓] theorem T8:Ai (.lit (.bool false)) A B=B true:=by simp[Ai]
@[go_sem ↓] theorem adP (h:p):Ai (.lit (.bool (decide p))) A B=A true:=by simp[Ai,h]
@[go_sem ↓] theorem adS (h:¬p):Ai (.lit (.bool (decide p))) A B=B true:=by simp[Ai,h]
@[go_sem ↓] theorem ZJ (h:p):Ai (.lit (.bool (!decide p))) A B=B true:=by simp[Ai,h]
@[go_sem ↓] theorem Wn (h:¬p):Ai (.lit (.bool (!decide p))) A B=A true:=by simp[Ai,h]
variable {x y:V}
@[go_sem ↓] theorem Qi:gF (.lit (.bool true)) x y F=F true x:=(rfl)
@[go_sem ↓] theorem On:gF (.lit (.bool false)) x y F=F true y:=(rfl)
@[go_sem ↓] theorem S4 (h:p):gF (.lit (.bool (decide p))) x y F=F true x:=by simp[gF,h]
@[go_sem ↓] theorem R5 (h:¬p):gF (.lit (.bool (decide p))) x y F=F true y:=by simp[gF,h]
@[go_sem ↓] theorem Qs (h:p):gF (.lit (.bool (!decide p))) x y F=F true y:=by simp[gF,h]
@[go_sem ↓] theorem Qt (h:¬p):gF (.lit (.bool (!decide p))) x y F=F true x:=by simp[gF,h]
end
variable {x y c a b:Operand} {j:Nat}
@[go_sem ↓] theorem ZI:eI true e P ⟨d,.move x,ty,pos,af,g⟩ ρ σ kv=cq ρ x fun u=>kv true u σ:=(rfl)
@[go_sem ↓] theorem RU:iL true P ⟨d,.move x,ty,pos,af,g⟩ ρ F=cq ρ x fun u=>F true u:=(rfl)
@[go_sem ↓] theorem Rl:na true P ⟨d,.move x,ty,pos,af,g⟩ ρ σ F=cq ρ x fun u=>F true u:=(rfl)
@[go_sem ↓] theorem PY:eI true e P ⟨d,.assign x,ty,pos,af,g⟩ ρ σ kv=cq ρ x fun u=>kv true u σ:=(rfl)
@[go_sem ↓] theorem OL:iL true P ⟨d,.assign x,ty,pos,af,g⟩ ρ F=cq ρ x fun u=>F true u:=(rfl)
@[go_sem ↓] theorem Ve:eI true e P ⟨d,.pick c x y,ty,pos,af,g⟩ ρ σ kv=cq ρ c fun c=>cq ρ x fun x=>cq ρ y fun y=>gF c x y fun τ u=>kv τ u σ:=(rfl)
@[go_sem ↓] theorem Tb:iL true P ⟨d,.pick c x y,ty,pos,af,g⟩ ρ F=cq ρ c fun c=>cq ρ x fun x=>cq ρ y fun y=>gF c x y F:=(rfl)
@[go_sem ↓] theorem RM:na true P ⟨d,.pick c x y,ty,pos,af,g⟩ ρ σ F=cq ρ c fun c=>cq ρ x fun x=>cq ρ y fun y=>gF c x y F:=(rfl)
@[go_sem ↓] theorem MS:eI true e P ⟨d,.nilCheck x,ty,pos,af,g⟩ ρ σ kv=cq ρ x fun u=>NQ u fun τ u=>kv τ u σ:=(rfl)
@[go_sem ↓] theorem JP:iL true P ⟨d,.nilCheck x,ty,pos,af,g⟩ ρ F=cq ρ x fun u=>NQ u F:=(rfl)
@[go_sem ↓] theorem Kb:na true P ⟨d,.nilCheck x,ty,pos,af,g⟩ ρ σ F=cq ρ x fun u=>NQ u F:=(rfl)
@[go_sem ↓] theorem R9 {bo:BinOp}:eI true e P ⟨d,.binOp bo t x y s,ty,pos,af,g⟩ ρ σ kv=cq ρ x fun u=>cq ρ y fun v=>l7 P bo t y u v fun τ u=>kv τ u σ:=(rfl)
@[go_sem ↓] theorem PX {bo:BinOp}:iL true P ⟨d,.binOp bo t x y s,ty,pos,af,g⟩ ρ F=cq ρ x fun u=>cq ρ y fun v=>l7 P bo t y u v F:=(rfl)
@[go_sem ↓] theorem Qz {bo:BinOp}:na true P ⟨d,.binOp bo t x y s,ty,pos,af,g⟩ ρ σ F=cq ρ x fun u=>cq ρ y fun v=>l7 P bo t y u v F:=(rfl)
@[go_sem ↓] theorem Zt {uo:UnOp}:eI true e P ⟨d,.unOp uo t x,ty,pos,af,g⟩ ρ σ kv=cq ρ x fun u=>wO uo u fun τ u=>kv τ u σ:=(rfl)
@[go_sem ↓] theorem RY {uo:UnOp}:na true P ⟨d,.unOp uo t x,ty,pos,af,g⟩ ρ σ F=cq ρ x fun u=>wO uo u F:=(rfl)
@[go_sem ↓] theorem Ou:eI true e P ⟨d,.convert s t x,ty,pos,af,g⟩ ρ σ kv=cq ρ x fun u=>kY P s t u σ kv:=(rfl)
@[go_sem ↓] theorem LG:iL true P ⟨d,.convert s t x,ty,pos,af,g⟩ ρ F=cq ρ x fun u=>mZ P s t u F:=(rfl)
@[go_sem ↓] theorem Kq:na true P ⟨d,.convert s t x,ty,pos,af,g⟩ ρ σ F=cq ρ x fun u=>eS P s t u σ F:=(rfl)
@[go_sem ↓] theorem Rm {lo hi mx:Option Operand}:eI true e P ⟨d,.slice t x lo hi mx,ty,pos,af,g⟩ ρ σ kv=cq ρ x fun x=>jD ρ lo fun lo=>jD ρ hi fun hi=>jD ρ mx fun mx=>AG P t x lo hi mx σ fun τ u=>kv τ u σ:=(rfl)
@[go_sem ↓] theorem Rk {lo hi mx:Option Operand}:iL true P ⟨d,.slice t x lo hi mx,ty,pos,af,g⟩ ρ F=cq ρ x fun x=>jD ρ lo fun lo=>jD ρ hi fun hi=>jD ρ mx fun mx=>mB P t x lo hi mx F:=(rfl)
@[go_sem ↓] theorem JV:eI true e P ⟨d,.fieldAddr t x j,ty,pos,af,g⟩ ρ σ kv=cq ρ x fun u=>aK P t u j fun τ u=>kv τ u σ:=(rfl)
@[go_sem ↓] theorem IL:iL true P ⟨d,.fieldAddr t x j,ty,pos,af,g⟩ ρ F=cq ρ x fun u=>aK P t u j F:=(rfl)
@[go_sem ↓] theorem Jz:na true P ⟨d,.fieldAddr t x j,ty,pos,af,g⟩ ρ σ F=cq ρ x fun u=>aK P t u j F:=(rfl)
@[go_sem ↓] theorem J0:eI true e P ⟨d,.indexAddr t x y,ty,pos,af,g⟩ ρ σ kv=cq ρ x fun u=>cq ρ y fun v=>cY P t u v fun τ u=>kv τ u σ:=(rfl)
@[go_sem ↓] theorem HO:iL true P ⟨d,.indexAddr t x y,ty,pos,af,g⟩ ρ F=cq ρ x fun u=>cq ρ y fun v=>cY P t u v F:=(rfl)
@[go_sem ↓] theorem SF:eI true e P ⟨d,.index t x y,ty,pos,af,g⟩ ρ σ kv=cq ρ x fun u=>cq ρ y fun v=>pI P t u v fun τ u=>kv τ u σ:=(rfl)
@[go_sem ↓] theorem ND:eI true e P ⟨d,.extract x j,ty,pos,af,g⟩ ρ σ kv=cq ρ x fun u=>Ea u j fun τ u=>kv τ u σ:=(rfl)
@[go_sem ↓] theorem M8:iL true P ⟨d,.extract x j,ty,pos,af,g⟩ ρ F=cq ρ x fun u=>Ea u j F:=(rfl)
@[go_sem ↓] theorem Su {ps:List (Nat×Operand)}:eI true e P ⟨d,.build t ps.toArray,ty,pos,af,g⟩ ρ σ kv=sE ρ ps fun vs=>dI P t vs fun τ u=>kv τ u σ:=(rfl)
@[go_sem ↓] theorem PA {ps:List (Nat×Operand)}:iL true P ⟨d,.build t ps.toArray,ty,pos,af,g⟩ ρ F=sE ρ ps fun vs=>dI P t vs F:=(rfl)
@[go_sem ↓] theorem CX:eI true e P ⟨d,.makeInterface t x,ty,pos,af,g⟩ ρ σ kv=cq ρ x fun u=>vh P t u fun τ u=>kv τ u σ:=(rfl)
@[go_sem ↓] theorem TG:na true P ⟨d,.load t x,ty,pos,af,g⟩ ρ σ F=cq ρ x fun u=>fe P t u σ F:=(rfl)
@[go_sem ↓] theorem XH:eI true e P ⟨d,.load t x,ty,pos,af,g⟩ ρ σ kv=cq ρ x fun u=>fe P t u σ fun τ v=>kv τ v σ:=(rfl)
@[go_sem ↓] theorem UB:eI true false P ⟨d,.store t x y,ty,pos,af,g⟩ ρ σ kv=cq ρ x fun u=>cq ρ y fun v=>fO P t u v σ fun τ σ'=>kv τ (.tup []) σ':=(rfl)
@[go_sem ↓] theorem WZ {xs:List Operand}:na true P ⟨d,.call {callee:=.builtin .len,args:=xs.toArray,argTypes:=[t].toArray},ty,pos,af,g⟩ ρ σ F=j8 ρ xs fun us=>eJ P true .len [t] us σ fun τ v _=>F τ v:=(rfl)
@[go_sem ↓] theorem RZ:eI true e P ⟨d,.alloc t,ty,pos,af,g⟩ ρ σ kv=dJ P t σ kv:=(rfl)
@[go_sem ↓] theorem ad0:eI true e P ⟨d,.box t x,ty,pos,af,g⟩ ρ σ kv=cq ρ x fun u=>LC u σ kv:=(rfl)
@[go_sem ↓] theorem H7 {ps:List (Nat×Operand)}:eI true e P ⟨d,.buildSlice t n ps.toArray,ty,pos,af,g⟩ ρ σ kv=sE ρ ps fun vs=>gK P t n vs σ kv:=(rfl)
@[go_sem ↓] theorem J4:eI true e P ⟨d,.makeSlice t x y,ty,pos,af,g⟩ ρ σ kv=cq ρ x fun l=>cq ρ y fun c=>oZ P t l c σ kv:=(rfl)
@[go_sem ↓] theorem Ms {f:Nat} {cs:List Operand}:eI true e P ⟨d,.makeFunc (.func f) #[] cs.toArray,ty,pos,af,g⟩ ρ σ kv=j8 ρ cs fun c=>kv true (.clo f c) σ:=(rfl)
@[go_sem ↓] theorem ZL {f:Operand} {xs:List Operand} {ats:Array TypeId}:eI true e P ⟨d,.call {callee:=.value f,args:=xs.toArray,argTypes:=ats},ty,pos,af,g⟩ ρ σ kv=cq ρ f fun f=>j8 ρ xs fun args=>Nj P e f args σ kv:=(rfl)
@[go_sem ↓] theorem P9 {rc:Operand} {nm:String} {xs:List Operand} {ats:Array TypeId}:eI true e P ⟨d,.call {callee:=.invoke rc nm,args:=xs.toArray,argTypes:=ats},ty,pos,af,g⟩ ρ σ kv=cq ρ rc fun u=>j8 ρ xs fun args=>pG P e u nm args σ kv:=(rfl)
@[go_sem ↓] theorem Ol {b:Builtin} {xs:List Operand} {ats:List TypeId}:eI true e P ⟨d,.call {callee:=.builtin b,args:=xs.toArray,argTypes:=ats.toArray},ty,pos,af,g⟩ ρ σ kv=j8 ρ xs fun args=>eJ P e b ats args σ kv:=(rfl)
@[go_sem ↓] theorem Zb {f:Nat} {cs args:List V}:Nj P e (.clo f cs) args σ kv=dB P e f (args++cs) σ kv:=(rfl)
@[go_sem ↓] theorem OW {t tx:TypeId} {u x:V}:eJ P e .append [t,tx] [u,x] σ kv=mM P e t tx u x σ kv:=(rfl)
@[go_sem ↓] theorem SM {t tx:TypeId} {u x:V}:eJ P false .copy [t,tx] [u,x] σ kv=Ap P t tx u x σ kv:=(rfl)
@[go_sem ↓] theorem Xw {ts:List TypeId} {us:List V}:eJ P e .min ts us σ kv=FN .min us fun τ u=>kv τ u σ:=(rfl)
@[go_sem ↓] theorem Z2 {ts:List TypeId} {us:List V}:eJ P e .max ts us σ kv=FN .max us fun τ u=>kv τ u σ:=(rfl)
variable {i1 i2 i3 i4:IntKind} {n1 n2 n3 n4:Int}
@[go_sem ↓] theorem Xy:FN .min [.lit (.int i1 n1),.lit (.int i2 n2)] F=F true (.lit (.int i1 (min n1 n2))):=(rfl)
@[go_sem ↓] theorem Ww:FN .max [.lit (.int i1 n1),.lit (.int i2 n2)] F=F true (.lit (.int i1 (max n1 n2))):=(rfl)
section
variable {bo:BinOp} {yy:Operand} {u v:V} {t s:TypeId}
@[go_sem ↓] theorem Zc {i:IntKind} {a:Int}:l7 P bo t yy (.lit (.int i a)) v F=aO P bo t (.lit (.int i a)) v F:=(rfl)
@[go_sem ↓] theorem Ss {a:Bool}:l7 P bo t yy (.lit (.bool a)) v F=aO P bo t (.lit (.bool a)) v F:=(rfl)
@[go_sem ↓] theorem WJ {a:ByteArray}:l7 P bo t yy (.lit (.string a)) v F=aO P bo t (.lit (.string a)) v F:=(rfl)
@[go_sem ↓] theorem YX {z:Nat} {l:List (List PV)}:l7 P bo t yy (.row z l) v F=aO P bo t (.row z l) v F:=(rfl)
@[go_sem ↓] theorem Yr {o z i off:Nat}:l7 P bo t yy (.ref o z i off) v F=aO P bo t (.ref o z i off) v F:=(rfl)
@[go_sem ↓] theorem Rt {z i off:Nat} {l:List (List PV)}:l7 P bo t yy (.rref z l i off) v F=aO P bo t (.rref z l i off) v F:=(rfl)
@[go_sem ↓] theorem YM {l:List V}:l7 P bo t yy (.agg l) v F=aO P bo t (.agg l) v F:=(rfl)
theorem lF {nm:String} {f:FuncId} {i:IntKind} {a:Int} {args:List V} (h:K3 P t nm=some f):pG P e (.lit (.iface t (.int i a))) nm args σ kv=dB P e f (.lit (.int i a)::args) σ kv:=by unfold pG;simp only[h]
theorem vx {i k:IntKind} {a:Int} (h:P.underlying t=some (.int k)):vh P t (.lit (.int i a)) F=F true (.lit (.iface t (.int i a))):=by unfold vh;simp only[h]
theorem Iz {s:TypeId} {a:Value} (h:sQ P t=true):l7 P .eql t (.const .nilIface) (.lit (.iface s a)) (.lit .nilIface) F=F true (.lit (.bool false)):=by simp[l7,h,rS,dF,iN,isEq]
theorem gj (h:(j3 P s).isSome=true):kY P s t u σ kv=eS P s t u σ fun τ u=>kv τ u σ:=by
 unfold kY;rw[if_neg];rintro ⟨h1,_⟩;unfold j3 at h;unfold isStr at h1
 cases hq:P.underlying s with
 | none=>rw[hq] at h1;cases h1
 | some d=>rw[hq] at h h1;cases d<;>first | (simp at h;done) | (simp at h1;done)
theorem G4 (h:pE P s=true):kY P s t u σ kv=eS P s t u σ fun τ u=>kv τ u σ:=by
 unfold kY;rw[if_neg];rintro ⟨h1,_⟩;unfold pE at h;unfold isStr at h1
 cases hq:P.underlying s with
 | none=>rw[hq] at h1;cases h1
 | some d=>rw[hq] at h h1;cases d<;>first | (simp at h;done) | (simp at h1;done)
end
section
variable {i j:IntKind} {a b:Int}
theorem bA {bo:BinOp} {r:Value} (h0:P4 bo=false) (h:kR bo i a b=some r):aO P bo t (.lit (.int i a)) (.lit (.int i b)) F=F true (.lit r):=by simp[aO,h0,h,dF]
theorem gL {bo:BinOp} {r:Value} (h0:P4 bo=true) (h:CJ bo i a b=some r):aO P bo t (.lit (.int i a)) (.lit (.int j b)) F=F true (.lit r):=by simp[aO,h0,h,dF]
@[go_sem ↓] theorem Vc:aO P .add t (.lit (.int i a)) (.lit (.int i b)) F=F true (.lit (.int i (i.wrap (a+b)))):=bA rfl rfl
@[go_sem ↓] theorem Zh:aO P .sub t (.lit (.int i a)) (.lit (.int i b)) F=F true (.lit (.int i (i.wrap (a-b)))):=bA rfl rfl
@[go_sem ↓] theorem VK:aO P .mul t (.lit (.int i a)) (.lit (.int i b)) F=F true (.lit (.int i (i.wrap (a*b)))):=bA rfl rfl
@[go_sem ↓] theorem Xm (h:b≠0):aO P .quo t (.lit (.int i a)) (.lit (.int i b)) F=F true (.lit (.int i (i.wrap (a.tdiv b)))):=bA rfl (by simp[kR,h])
@[go_sem ↓] theorem ZB (h:b≠0):aO P .rem t (.lit (.int i a)) (.lit (.int i b)) F=F true (.lit (.int i (a.tmod b))):=bA rfl (by simp[kR,h])
@[go_sem ↓] theorem Vm:aO P .lss t (.lit (.int i a)) (.lit (.int i b)) F=F true (.lit (.bool (decide (a<b)))):=bA rfl rfl
@[go_sem ↓] theorem Wp:aO P .leq t (.lit (.int i a)) (.lit (.int i b)) F=F true (.lit (.bool (decide (a≤b)))):=bA rfl rfl
@[go_sem ↓] theorem Zo:aO P .gtr t (.lit (.int i a)) (.lit (.int i b)) F=F true (.lit (.bool (decide (b<a)))):=bA rfl rfl
@[go_sem ↓] theorem Wo:aO P .geq t (.lit (.int i a)) (.lit (.int i b)) F=F true (.lit (.bool (decide (b≤a)))):=bA rfl rfl
@[go_sem ↓] theorem WU:aO P .eql t (.lit (.int i a)) (.lit (.int i b)) F=F true (.lit (.bool (decide (a=b)))):=bA rfl rfl
@[go_sem ↓] theorem WE:aO P .neq t (.lit (.int i a)) (.lit (.int i b)) F=F true (.lit (.bool (!decide (a=b)))):=bA rfl rfl
@[go_sem ↓] theorem Zx:aO P .and t (.lit (.int i a)) (.lit (.int i b)) F=F true (.lit (.int i (cv .and i a b))):=bA rfl rfl
@[go_sem ↓] theorem acV:aO P .or t (.lit (.int i a)) (.lit (.int i b)) F=F true (.lit (.int i (cv .or i a b))):=bA rfl rfl
@[go_sem ↓] theorem ZK:aO P .xor t (.lit (.int i a)) (.lit (.int i b)) F=F true (.lit (.int i (cv .xor i a b))):=bA rfl rfl
@[go_sem ↓] theorem Oj:aO P .andNot t (.lit (.int i a)) (.lit (.int i b)) F=F true (.lit (.int i (cv .andNot i a b))):=bA rfl rfl
@[go_sem ↓ high] theorem JZ {m:Nat} (h:m≤64):aO P .shl t (.lit (.int .i64 a)) (.lit (.int j (m:Int))) F=F true (.lit (.int .i64 (IntKind.i64.wrap (a*2^m)))):=by
 refine gL rfl ?_;simp only[CJ];rw[if_pos (by omega)];simp only[aj6];rw[akl (by simpa [IntKind.bits] using h)]
@[go_sem ↓ high] theorem J7 {m:Nat} (h:m≤64):aO P .shr t (.lit (.int .i64 a)) (.lit (.int j (m:Int))) F=F true (.lit (.int .i64 (a/2^m))):=by
 refine gL rfl ?_;simp only[CJ];rw[if_pos (by omega)];simp only[aj6];rw[akl (by simpa [IntKind.bits] using h)]
@[go_sem ↓] theorem nU (h:0≤b∧b≤64):aO P .shl t (.lit (.int .u64 a)) (.lit (.int j b)) F=F true (.lit (.int .u64 (IntKind.u64.wrap (a*2^b.toNat)))):=by
 refine gL rfl ?_;simp only[CJ];rw[if_pos (by omega),akl (by simp only[IntKind.bits];omega)]
@[go_sem ↓] theorem fr (h:0≤b∧b≤64):aO P .shr t (.lit (.int .u64 a)) (.lit (.int j b)) F=F true (.lit (.int .u64 (a/2^b.toNat))):=by
 refine gL rfl ?_;simp only[CJ];rw[if_pos (by omega),akl (by simp only[IntKind.bits];omega)]
@[go_sem ↓ high] theorem J8 {m:Nat} (h:m≤64):aO P .shl t (.lit (.int .u64 a)) (.lit (.int j (m:Int))) F=F true (.lit (.int .u64 (IntKind.u64.wrap (a*2^m)))):=by
 refine gL rfl ?_;simp only[CJ];rw[if_pos (by omega)];simp only[aj6];rw[akl (by simpa [IntKind.bits] using h)]
@[go_sem ↓ high] theorem Ki {m:Nat} (h:m≤64):aO P .shr t (.lit (.int .u64 a)) (.lit (.int j (m:Int))) F=F true (.lit (.int .u64 (a/2^m))):=by
 refine gL rfl ?_;simp only[CJ];rw[if_pos (by omega)];simp only[aj6];rw[akl (by simpa [IntKind.bits] using h)]
@[go_sem ↓] theorem m6 (h:0≤b∧b≤32):aO P .shr t (.lit (.int .u32 a)) (.lit (.int j b)) F=F true (.lit (.int .u32 (a/2^b.toNat))):=by
 refine gL rfl ?_;simp only[CJ];rw[if_pos (by omega),akl (by simp only[IntKind.bits];omega)]
@[go_sem ↓] theorem Nr (h:0≤b∧b≤8):aO P .shl t (.lit (.int .u8 a)) (.lit (.int j b)) F=F true (.lit (.int .u8 (IntKind.u8.wrap (a*2^b.toNat)))):=by
 refine gL rfl ?_;simp only[CJ];rw[if_pos (by omega),akl (by simp only[IntKind.bits];omega)]
@[go_sem ↓] theorem OC (h:0≤b∧b≤8):aO P .shr t (.lit (.int .u8 a)) (.lit (.int j b)) F=F true (.lit (.int .u8 (a/2^b.toNat))):=by
 refine gL rfl ?_;simp only[CJ];rw[if_pos (by omega),akl (by simp only[IntKind.bits];omega)]
@[go_sem ↓ high] theorem Mk (h: -9223372036854775808≤a+b∧a+b≤9223372036854775807):aO P .add t (.lit (.int .i64 a)) (.lit (.int .i64 b)) F=F true (.lit (.int .i64 (a+b))):=bA rfl (by simp only[kR];rw[wrap_i64 h])
@[go_sem ↓ high] theorem MJ (h: -9223372036854775808≤a-b∧a-b≤9223372036854775807):aO P .sub t (.lit (.int .i64 a)) (.lit (.int .i64 b)) F=F true (.lit (.int .i64 (a-b))):=bA rfl (by simp only[kR];rw[wrap_i64 h])
@[go_sem ↓ high] theorem Mz (h: -9223372036854775808≤a*b∧a*b≤9223372036854775807):aO P .mul t (.lit (.int .i64 a)) (.lit (.int .i64 b)) F=F true (.lit (.int .i64 (a*b))):=bA rfl (by simp only[kR];rw[wrap_i64 h])
@[go_sem ↓ high] theorem LV (h:0≤a+b∧a+b≤18446744073709551615):aO P .add t (.lit (.int .u64 a)) (.lit (.int .u64 b)) F=F true (.lit (.int .u64 (a+b))):=bA rfl (by simp only[kR];rw[wrap_u64 h])
@[go_sem ↓ high] theorem Nn (h:0≤a-b∧a-b≤18446744073709551615):aO P .sub t (.lit (.int .u64 a)) (.lit (.int .u64 b)) F=F true (.lit (.int .u64 (a-b))):=bA rfl (by simp only[kR];rw[wrap_u64 h])
@[go_sem ↓ high] theorem Ml (h:0≤a*b∧a*b≤18446744073709551615):aO P .mul t (.lit (.int .u64 a)) (.lit (.int .u64 b)) F=F true (.lit (.int .u64 (a*b))):=bA rfl (by simp only[kR];rw[wrap_u64 h])
@[go_sem ↓ high] theorem ML (h:0≤a∧a≤9223372036854775807∧0<b):aO P .quo t (.lit (.int .i64 a)) (.lit (.int .i64 b)) F=F true (.lit (.int .i64 (a/b))):=by
 have:=n8 h.1 h.2.2
 exact bA rfl (by simp only[kR];rw[if_neg (by omega),Int.tdiv_eq_ediv_of_nonneg h.1,wrap_i64 (by omega)])
@[go_sem ↓ high] theorem Np (h:0≤a∧a≤18446744073709551615∧0<b):aO P .quo t (.lit (.int .u64 a)) (.lit (.int .u64 b)) F=F true (.lit (.int .u64 (a/b))):=by
 have:=n8 h.1 h.2.2
 exact bA rfl (by simp only[kR];rw[if_neg (by omega),Int.tdiv_eq_ediv_of_nonneg h.1,wrap_u64 (by omega)])
@[go_sem ↓ high] theorem KX (h:0≤a∧b≠0):aO P .rem t (.lit (.int i a)) (.lit (.int i b)) F=F true (.lit (.int i (a%b))):=bA rfl (by simp[kR,h.2,ak5 h.1])
@[go_sem ↓] theorem YN {b:Bool}:wO .not (.lit (.bool b)) F=F true (.lit (.bool !b)):=(rfl)
@[go_sem ↓] theorem Wl:wO .neg (.lit (.int i a)) F=F true (.lit (.int i (i.wrap (0-a)))):=(rfl)
@[go_sem ↓] theorem XW:wO .xor (.lit (.int i a)) F=F true (.lit (.int i (cv .xor i (if i.signed then-1 else i.max) a))):=(rfl)
theorem dr (q:Nat) {m z:Int} (hj:q<i.bits) (hm:m=2^q-1) (hz:z=2^q):aO P .and t (.lit (.int i a)) (.lit (.int i m)) F=F true (.lit (.int i (a%z))):=bA rfl (by simp only[kR];rw[hm,hz,eu hj])
theorem Gz {x y:Bool} (h:isBool P t=true):aO P .eql t (.lit (.bool x)) (.lit (.bool y)) F=F true (.lit (.bool (x==y))):=by simp[aO,h,dF,yN,isEq]
theorem JA {x y:Bool} (h:isBool P t=true):aO P .neq t (.lit (.bool x)) (.lit (.bool y)) F=F true (.lit (.bool (!(x==y)))):=by simp[aO,h,dF,yN,isEq]
theorem I2 {o z i off:Nat} (h:py P t=true):aO P .eql t (.ref o z i off) (.lit (.pointer none)) F=F true (.lit (.bool false)):=by simp[aO,h,dF,iN,isEq]
theorem sT {o z i off:Nat} (h:py P t=true):aO P .neq t (.ref o z i off) (.lit (.pointer none)) F=F true (.lit (.bool true)):=by simp[aO,h,dF,iN,isEq]
theorem lO {z i off:Nat} {l:List (List PV)} (h:py P t=true):aO P .neq t (.rref z l i off) (.lit (.pointer none)) F=F true (.lit (.bool true)):=by simp[aO,h,dF,iN,isEq]
theorem jo {z:Nat} {l:List (List PV)} (h:uj P t=true∧0<z):aO P .eql t (.row z l) (.lit (.slice none 0 0)) F=om .eql l.isEmpty F:=by simp[aO,h]
@[go_sem ↓] theorem TZ:om .eql false F=F true (.lit (.bool false)):=(rfl)
theorem jn (h1:F true (.lit (.bool true))) (h2:F true (.lit (.bool false))):om .eql true F:=⟨h1,h2⟩
theorem jL {kd:IntKind} (hs:(j3 P s).isSome=true) (ht:j3 P t=some kd):mZ P s t (.lit (.int i a)) F=F true (.lit (.int kd (kd.wrap a))):=by
 obtain ⟨q,hq⟩:=akO.1 hs;simp[mZ,hq,ht]
theorem KN (hs:(j3 P s).isSome=true) (ht:j3 P t=some .u8) (h:0≤a∧a≤255):mZ P s t (.lit (.int i a)) F=F true (.lit (.int .u8 a)):=by rw[jL hs ht,wrap_u8 h]
theorem HF (hs:(j3 P s).isSome=true) (ht:j3 P t=some .u32) (h:0≤a∧a≤4294967295):mZ P s t (.lit (.int i a)) F=F true (.lit (.int .u32 a)):=by rw[jL hs ht,wrap_u32 h]
theorem kC (hs:(j3 P s).isSome=true) (ht:j3 P t=some .u64) (h:0≤a∧a≤18446744073709551615):mZ P s t (.lit (.int i a)) F=F true (.lit (.int .u64 a)):=by rw[jL hs ht,wrap_u64 h]
theorem xn (hs:(j3 P s).isSome=true) (ht:j3 P t=some .i64) (h: -9223372036854775808≤a∧a≤9223372036854775807):mZ P s t (.lit (.int i a)) F=F true (.lit (.int .i64 a)):=by rw[jL hs ht,wrap_i64 h]
end
@[go_sem ↓] theorem aaJ {o z i off:Nat}:NQ (.ref o z i off) F=F true (.ref o z i off):=(rfl)
@[go_sem ↓] theorem YP {z:Nat} {l:List (List PV)} {i off:Nat}:NQ (.rref z l i off) F=F true (.rref z l i off):=(rfl)
@[go_sem ↓] theorem Wz {l:List V} {j:Nat}:Ea (.tup l) j F=mh l j fun x=>F true x:=(rfl)
section
variable {α β:Type} {v:α} {l c:List α} {i m:Nat} {G:α→Prop} {H:List α→Prop} {f:β→α} {L:List β}
@[go_sem ↓] theorem V6:mh (v::l) 0 G=G v:=(rfl)
@[go_sem ↓] theorem XE:mh (v::l) (i+1) G=mh l i G:=by simp[mh]
theorem Q9 {x:α} (h:l[i]? =some x):mh l i G=G x:=by simp[mh,h]
@[go_sem ↓] theorem B5 [Inhabited β] (h:i<L.length):mh (L.map f) i G=G (f (L.getD i default)):=by
 rw[Q9 (x:=f (L.getD i default))];rw[aj1,ajm h,ajk,ajm h]
 rfl
@[go_sem ↓] theorem VG:wo l 0 0 H=H []:=by simp[wo]
@[go_sem ↓] theorem Yb:wo (v::l) 0 (m+1) H=wo l 0 m fun r=>H (v::r):=by simp[wo]
@[go_sem ↓] theorem Zf:wo (v::l) (i+1) m H=wo l i m H:=by
 unfold wo;rw[ajr,List.drop_succ_cons]
 by_cases h:i+m≤l.length
 · rw[if_pos h,if_pos (by omega)]
 · rw[if_neg h,if_neg (by omega)]
theorem Mt (h:l.length=m):wo l 0 m H=H l:=by simp[wo,←h]
@[go_sem ↓] theorem VO:dp l 0 [] H=H l:=by
 simp[dp]
@[go_sem ↓] theorem XT {x:α}:dp (v::l) 0 (x::c) H=dp l 0 c fun r=>H (x::r):=by
 simp[dp,akS]
@[go_sem ↓] theorem Yi:dp (v::l) (i+1) c H=dp l i c fun r=>H (v::r):=by
 unfold dp
 by_cases h:i+c.length≤l.length
 · rw[if_pos h,if_pos (by simp;omega)]
   simp[Nat.add_right_comm]
 · rw[if_neg h,if_neg (by simp;omega)]
theorem wb {x:α} (h:i<l.length):dp l i [x] H=H (l.set i x):=by
 unfold dp;rw[if_pos (by simp;omega)]
 congr 1
 rw[List.set_eq_take_append_cons_drop,if_pos h]
 simp
@[go_sem ↓] theorem aaz {x:α} (h:i<L.length):dp (L.map f) i [x] H=H ((L.map f).set i x):=wb (by simpa using h)
@[go_sem ↓] theorem Vi {p:Prop}:aJ ([]:List α) 0 p=p:=by simp[aJ]
@[go_sem ↓] theorem TP {p:Prop}:aJ (v::l) (m+1) p=aJ l m p:=by simp[aJ]
theorem LU {p:Prop} (h:l.length=m):aJ l m p=p:=by simp[aJ,h]
end
section
variable {p:Prop} {C:List Value}
@[go_sem ↓] theorem Qm:aC [] p=p:=by simp[aC]
@[go_sem ↓] theorem QD {i:IntKind} {a:Int}:aC (.int i a::C) p=aC C p:=by simp[aC,bF]
@[go_sem ↓] theorem N5 {b:Bool}:aC (.bool b::C) p=aC C p:=by simp[aC,bF]
@[go_sem ↓] theorem Mm {a:Option Addr} {l c:Nat}:aC (.slice a l c::C) p=aC C p:=by simp[aC,bF]
@[go_sem ↓] theorem Js {a:Option Addr}:aC (.pointer a::C) p=aC C p:=by simp[aC,bF]
@[go_sem ↓] theorem FQ:aC (.nilIface::C) p=aC C p:=by simp[aC,bF]
@[go_sem ↓] theorem Q5 {m:Nat} {v:Value}:aC (List.replicate m v) p=if m=0∨bF v=true then p else False:=by
 unfold aC
 cases m with
 | zero=>simp
 | succ m=>simp[akF];exact fun _ h=>.inr h
end
@[go_sem ↓] theorem VN {ob:Ob} {G:Ob→Prop}:oh (some ob::σ) 0 G=G ob:=(rfl)
@[go_sem ↓] theorem YC {x:Option Ob} {o:Nat} {G:Ob→Prop}:oh (x::σ) (o+1) G=oh σ o G:=by simp[oh,mh]
@[go_sem ↓] theorem aie {z off:Nat}:uG z 0 off=off:=by simp[uG]
@[go_sem ↓] theorem aaN {i:Nat}:uG 1 i 0=i:=by simp[uG]
@[go_sem ↓] theorem aeb {z i off:Nat}:uG (z+2) i off=i*(z+2)+off:=(rfl)
section
variable {G:List V→Prop} {H:PV→Prop} {J:List PV→Prop} {v:Value} {z:Nat} {l:List (List PV)} {o i off len f:Nat} {us:List V} {u:V}
@[go_sem ↓] theorem ac7:bX (.agg us) G=G us:=(rfl)
@[go_sem ↓] theorem adk:bX (.lit v) G=G [.lit v]:=(rfl)
@[go_sem ↓] theorem aaZ:bX (.row z l) G=G [.row z l]:=(rfl)
@[go_sem ↓] theorem ab8:bX (.ref o z i off) G=G [.ref o z i off]:=(rfl)
@[go_sem ↓] theorem afQ:bX (.sl o z off len) G=G [.sl o z off len]:=(rfl)
@[go_sem ↓] theorem WC:bX (.rref z l i off) G=G [.rref z l i off]:=(rfl)
@[go_sem ↓] theorem abv:Lh (.lit v) H=H (.lit v):=(rfl)
@[go_sem ↓] theorem YH:Lh (.rref z l i off) H=H (.ptr z l i off):=(rfl)
@[go_sem ↓] theorem Wy:nD [] J=J []:=(rfl)
@[go_sem ↓] theorem SD:nD (u::us) J=Lh u fun p=>nD us fun ps=>J (p::ps):=(rfl)
@[go_sem ↓] theorem adJ:V.ofP (.lit v)=.lit v:=(rfl)
@[go_sem ↓] theorem abl:V.ofP (.row z l)=.row z l:=(rfl)
variable {q:Option Nat} {el:List PV} {cs:List V} {KK:Ob→Prop} {ks:KS} {z':Nat}
@[go_sem ↓] theorem adH:fX (.ref o z i off) σ q F=oh σ o fun ob=>Pk ob z i off q F:=(rfl)
@[go_sem ↓] theorem V5:fX (.rref z l i off) σ q F=mh l i fun e=>GU e off q F:=(rfl)
@[go_sem ↓] theorem WG:Pk (.cells us) z i off none F=mh us (uG z i off) fun u=>F true u:=(rfl)
@[go_sem ↓] theorem U2 {m:Nat}:Pk (.cells us) z i off (some m) F=wo us (uG z i off) m fun r=>F true (.agg r):=(rfl)
@[go_sem ↓] theorem acn:Pk (.row z l) z i off q F=mh l i fun e=>GU e off q F:=by simp[Pk]
@[go_sem ↓] theorem V8:GU el off none F=mh el off fun p=>F true (V.ofP p):=(rfl)
@[go_sem ↓] theorem Yp {m:Nat}:GU el off (some m) F=wo el off m fun r=>F true (.agg (r.map V.ofP)):=(rfl)
@[go_sem ↓] theorem adC:iK (.ref o z i off) σ cs ks=oh σ o fun ob=>NP ob z i off cs fun ob'=>ks true (σ.set o (some ob')):=(rfl)
@[go_sem ↓] theorem RL:NP (.cells us) z i off cs KK=dp us (uG z i off) cs fun l'=>KK (.cells l'):=(rfl)
@[go_sem ↓] theorem LR:NP (.row z l) z i off cs KK=mh l i fun e=>nD cs fun ps=>dp e off ps fun e'=>KK (.row z (l.set i e')):=by simp[NP]
@[go_sem ↓] theorem aad {ob:Ob} {G:Nat→St→Prop}:bK σ ob G=G σ.length (σ++[some ob]):=(rfl)
@[go_sem ↓] theorem aa3:LC u σ kv=bX u fun l=>bK σ (.cells l) fun o σ'=>kv true (.ref o 0 0 0) σ':=(rfl)
@[go_sem ↓] theorem SL {d m:Nat} {G:Nat→Prop}:dW none d m G=G d:=(rfl)
@[go_sem ↓] theorem Qo {d m:Nat} {G:Nat→Prop}:dW (some u) d m G=F6 u m G:=(rfl)
@[go_sem ↓] theorem abI {kd:IntKind} {a:Int} {m:Nat} {G:Nat→Prop} (h:0≤a∧a≤m):F6 (.lit (.int kd a)) m G=G a.toNat:=by simp[F6,h]
@[go_sem ↓ high] theorem acO {kd:IntKind} {a:Nat} {m:Nat} {G:Nat→Prop} (h:a≤m):F6 (.lit (.int kd (a:Int))) m G=G a:=by simp[F6,h]
variable {R':List (List PV)→Prop} {β:Type} {L:List β} {f:β→List PV}
@[go_sem ↓] theorem XG:gC (.row z l) σ z R'=R' l:=by simp[gC]
@[go_sem ↓] theorem acj:gC (.sl o z off len) σ z R'=oh σ o fun ob=>s9 ob z off len R':=by simp[gC]
@[go_sem ↓ high] theorem Y4 (h:off+len≤L.length):s9 (.row z (L.map f)) z off len R'=R' (((L.drop off).take len).map f):=by simp[s9,h,als,List.map_drop]
@[go_sem ↓ high] theorem afJ {e1:List PV}:s9 (.row z [e1]) z 0 1 R'=R' [e1]:=by simp[s9]
@[go_sem ↓ high] theorem aej {e1 e2 e3:List PV}:s9 (.row z [e1,e2,e3]) z 0 3 R'=R' [e1,e2,e3]:=by simp[s9]
@[go_sem ↓] theorem WL:fB (.row z l) F=F true (.lit (.int .i64 l.length)):=(rfl)
@[go_sem ↓ high] theorem TY:fB (.row z (L.map f)) F=F true (.lit (.int .i64 L.length)):=by simp[fB]
@[go_sem ↓] theorem acx:fB (.sl o z off len) F=F true (.lit (.int .i64 len)):=(rfl)
variable {yb:Nat} {m:List (List PV)} {M:List β}
@[go_sem ↓] theorem ac3:oc false z yb (.sl o z 0 len) m σ kv=oh σ o fun ob=>tf ob z yb len o m σ kv:=by simp[oc]
@[go_sem ↓] theorem abV (h:l.length=len∧(len+m.length)*2*yb≤281474976710656):tf (.row z l) z yb len o m σ kv=bK (σ.set o none) (.row z (l++m)) fun o' σ'=>kv true (.sl o' z 0 (len+m.length)) σ':=by simp[tf,h]
@[go_sem ↓ high] theorem GY (h:L.length=len∧(len+M.length)*2*yb≤281474976710656):tf (.row z (L.map f)) z yb len o (M.map f) σ kv=bK (σ.set o none) (.row z ((L++M).map f)) fun o' σ'=>kv true (.sl o' z 0 (len+M.length)) σ':=by simp[tf,h]
@[go_sem ↓ high] theorem Sm (h:M.length*2*yb≤281474976710656):tf (.row z []) z yb 0 o (M.map f) σ kv=bK (σ.set o none) (.row z (M.map f)) fun o' σ'=>kv true (.sl o' z 0 M.length) σ':=by simp[tf,h]
@[go_sem ↓ high] theorem Y5 (h:M.length≤len):Dw z (.sl o z off len) (M.map f) σ kv=oh σ o fun ob=>Iy ob z o off len (M.map f) σ kv:=by simp[Dw,h]
@[go_sem ↓ high] theorem Z1 (h:off+len≤L.length):Iy (.row z (L.map f)) z o off len (M.map f) σ kv=kv true (.lit (.int .i64 M.length)) (σ.set o (some (.row z ((L.take off++M++L.drop (off+M.length)).map f)))):=by simp[Iy,h,als,List.map_drop]
@[go_sem ↓] theorem pU {C:List Value} {a b:Int} (h:0≤a∧a=b∧a*yb≤140737488355328∧a<4611686018427387904∧0<yb) (hC:C.length=z):jU z yb C (.lit (.int .i64 a)) (.lit (.int .i64 b)) σ kv=aC C (bK σ (.row z (dQ C a.toNat)) fun o σ'=>kv true (.sl o z 0 a.toNat) σ'):=by
 unfold jU;simp only;rw[if_pos ⟨h.1,h.2.1,h.2.2.1,h.2.2.2.1,h.2.2.2.2,hC⟩]
def ie (kd:IntKind) (x:Int):List PV:=[.lit (.int kd x)]
section
variable {s t:TypeId}
end
def be (b:Bool):List PV:=[.lit (.bool b)]
@[go_sem] theorem ahW {kd:IntKind} {x:Int}:ie kd x=[.lit (.int kd x)]:=(rfl)
@[go_sem ↓ high] theorem H3 {kd:IntKind} {A:List Int} {G:List PV→Prop} (h:i<A.length):mh (A.map (ie kd)) i G=G [.lit (.int kd (A.getD i 0))]:=B5 h
@[go_sem ↓ high] theorem Wj {A:List Bool} {G:List PV→Prop} (h:i<A.length):mh (A.map be) i G=G [.lit (.bool (A.getD i false))]:=B5 h
theorem QA {kd:IntKind} {A:List Int} {x:Int}:(A.map (ie kd)).set i [PV.lit (.int kd x)]=(A.set i x).map (ie kd):=by rw[alC];rfl
@[go_sem ↓] theorem Vv {kd:IntKind} {x:Int} {m:Nat}:dQ [.int kd x] m=(List.replicate m x).map (ie kd):=by simp[dQ,ie]
@[go_sem ↓ high] theorem Xj {kd:IntKind} {A:List Int} {x:Int} (h:i<A.length):NP (.row 1 (A.map (ie kd))) 1 i 0 [.lit (.int kd x)] KK=KK (.row 1 ((A.set i x).map (ie kd))):=by
 rw[LR,H3 h];simp only[nD,Lh];rw[wb (by simp)];simp only[alp];rw[QA]
@[go_sem ↓ high] theorem ael {kd:IntKind} {A:List Int} {x:Int} (h:A.length=len∧(len+1)*2*yb≤281474976710656):tf (.row 1 (A.map (ie kd))) 1 yb len o [[PV.lit (.int kd x)]] σ kv=bK (σ.set o none) (.row 1 ((A++[x]).map (ie kd))) fun o' σ'=>kv true (.sl o' 1 0 (len+1)) σ':=GY (M:=[x]) h
end
section
variable {q:Option Nat} {u v:V} {ks:KS} {o z i off len j m y:Nat} {l:List (List PV)} {us:List V} {ag:Bool} {kd:IntKind} {a:Int} {et ex:TypeId} {β:Type} {L:List β} {f:β→List PV}
theorem aS (h:ye P t=some q):fe P t u σ F=fX u σ q F:=by simp[fe,h]
theorem bm (h:cS P t=some (m+1)):fO P t u v σ ks=bX v fun c=>aJ c (m+1) (iK u σ c ks):=by simp[fO,h]
theorem au {x:Nat} (h:Ew P t j=some (x,ag,m)):aK P t (.ref o z i off) j F=F true (.ref o z i (off+x)):=by simp[aK,h]
theorem bu {x:Nat} (h:Ew P t j=some (x,ag,m)):aK P t (.rref z l i off) j F=F true (.rref z l i (off+x)):=by simp[aK,h]
theorem vw (h:fo P t=some (et,z)) (hm:0≤a∧a<len):cY P t (.sl o z off len) (.lit (.int kd a)) F=F true (.ref o z (off+a.toNat) 0):=by simp[cY,h,yp,hm]
theorem mY (h:fo P t=some (et,z)) (hm:m<len):cY P t (.sl o z off len) (.lit (.int kd (m:Int))) F=F true (.ref o z (off+m) 0):=by simp[cY,h,yp,hm]
theorem yf (h:fo P t=some (et,z)) (hz:0<z) (hm:0≤a∧a<l.length):cY P t (.row z l) (.lit (.int kd a)) F=F true (.rref z l a.toNat 0):=by simp[cY,h,yp,hm,hz]
theorem dE (h:fo P t=some (et,z)) (hz:0<z) (hm:m<l.length):cY P t (.row z l) (.lit (.int kd (m:Int))) F=F true (.rref z l m 0):=by simp[cY,h,yp,hm,hz]
theorem lE (h:fo P t=some (et,z)) (hz:0<z) (hm:0≤a∧a<L.length):cY P t (.row z (L.map f)) (.lit (.int kd a)) F=F true (.rref z (L.map f) a.toNat 0):=by simp[cY,h,yp,hm,hz]
theorem K9 (h:ve P t=some (len,et,z)) (hm:0≤a∧a<len):cY P t (.ref o 0 0 off) (.lit (.int kd a)) F=F true (.ref o z a.toNat off):=by simp[cY,h,yp,hm]
theorem I7 (h:ve P t=some (len,et,z)) (hm:m<len):cY P t (.ref o 0 0 off) (.lit (.int kd (m:Int))) F=F true (.ref o z m off):=by simp[cY,h,yp,hm]
theorem Gb {s:ByteArray} (h:isStr P t=true) (hm:0≤a∧a<s.size):pI P t (.lit (.string s)) (.lit (.int kd a)) F=F true (.lit (.int .u8 (qL s a.toNat))):=by simp[pI,h,yp,hm]
theorem Pw (h:ve P t=some (len,et,1)) (hg:ye P et=some none) (hl:us.length=len) (hm:m<len):pI P t (.agg us) (.lit (.int kd (m:Int))) F=mh us m fun x=>F true x:=by simp[pI,h,hg,yp,hl,hm]
variable {lo hi mx:Option V}
@[go_sem ↓] theorem Z5 {lo hi mx:Option V}:AG P t (.sl o z off len) lo hi mx σ F=mB P t (.sl o z off len) lo hi mx F:=by cases mx<;>rfl
@[go_sem ↓] theorem Vo {lo hi mx:Option V} {ll:List (List PV)}:AG P t (.row z ll) lo hi mx σ F=mB P t (.row z ll) lo hi mx F:=by cases mx<;>rfl
theorem Kp (h:fo P t=some (et,z)):mB P t (.sl o z off len) lo hi none F=dW hi len len fun h=>dW lo 0 h fun l=>F true (.sl o z (off+l) (h-l)):=by simp[mB,IZ,h]
theorem oG (h:fo P t=some (et,z)):mB P t (.row z (L.map f)) lo hi none F=dW hi L.length L.length fun h=>dW lo 0 h fun x=>F true (.row z (((L.take h).drop x).map f)):=by simp[mB,IZ,h,als,List.map_drop]
theorem dY (h:(fo P t).isSome=true):eJ P e .len [t] [.row y l] σ kv=fB (.row y l) fun τ v=>kv τ v σ:=by
 obtain ⟨ez,h⟩:=akO.1 h;simp[eJ,yl,h]
theorem lu (h:(fo P t).isSome=true):eJ P e .len [t] [.sl o y off len] σ kv=fB (.sl o y off len) fun τ v=>kv τ v σ:=by
 obtain ⟨ez,h⟩:=akO.1 h;simp[eJ,yl,h]
theorem eN (h:(j3 P s).isSome=true):eS P s t u σ F=mZ P s t u F:=by
 unfold eS;rw[if_neg];rintro ⟨h1,_⟩;unfold j3 at h;unfold pE at h1
 cases hq:P.underlying s with
 | none=>rw[hq] at h1;cases h1
 | some d=>rw[hq] at h h1;cases d<;>first | (simp at h;done) | (simp at h1;done)
theorem Hq (h1:pE P s=true) (h2:isStr P t=true):eS P s t u σ F=gC u σ 1 fun l=>zB l fun b=>F true (.lit (.string (bs b))):=by
 unfold eS;rw[if_pos ⟨h1,h2⟩]
theorem gi {bo:BinOp} {fk:List Bool} {vs:List V} (h:Mh P t=some fk):aO P bo t (.agg us) (.agg vs) F=j9 fk us vs fun r=>dF (zb bo r) F:=by simp[aO,h]
@[go_sem ↓] theorem GO {r:Bool}:dF (zb .eql r) F=F true (.lit (.bool r)):=by cases r<;>rfl
@[go_sem ↓] theorem Yo {r:Bool}:dF (zb .neq r) F=F true (.lit (.bool !r)):=by cases r<;>rfl
@[go_sem ↓] theorem adB {G:Bool→Prop}:j9 [] [] [] G=G true:=(rfl)
@[go_sem ↓] theorem acC {fk:List Bool} {us vs:List V} {x y:Int} {G:Bool→Prop}:j9 (true::fk) (.lit (.int kd x)::us) (.lit (.int kd y)::vs) G=j9 fk us vs fun r=>G (decide (x=y)&&r):=by simp[j9]
@[go_sem ↓] theorem XP {fk:List Bool} {us vs:List V} {x y:Bool} {G:Bool→Prop}:j9 (false::fk) (.lit (.bool x)::us) (.lit (.bool y)::vs) G=j9 fk us vs fun r=>G ((x==y)&&r):=by simp[j9]
@[go_sem ↓] theorem QH {s r:List UInt8}:aO P .eql t (.lit (.string (bs s))) (.lit (.string (bs r))) F=F true (.lit (.bool (decide (s=r)))):=by
 simp only[aO,Kl,GO,bs]
 rfl
@[go_sem ↓] theorem Yz {N:List Int} {G:List UInt8→Prop}:zB (N.map (ie .u8)) G=G (N.map fun n=>UInt8.ofNat n.toNat):=by
 induction N generalizing G with
 | nil=>rfl
 | cons n N ih=>exact ih
theorem QB {s:List UInt8}:ByteArray.mk s.toArray=bs s:=(rfl)
attribute [go_sem] QB Bool.and_true Bool.true_and Bool.and_false Bool.false_and Bool.not_true Bool.not_false
theorem gI {C:List Value} (h:fo P t=some (et,z)) (hx:fo P s=some (ex,z)) (hC:gE P et=some C) (hy:tC P et=some y) (h0:0<y) (hz:C.length=z):mM P e t s u v σ kv=gC v σ z fun m=>oc e z y u m σ kv:=by simp[mM,h,hx,hC,hy,h0,hz]
theorem LN (h:fo P t=some (et,z)) (hx:fo P s=some (ex,z)):Ap P t s u v σ kv=gC v σ z fun m=>Dw z u m σ kv:=by simp[Ap,h,hx]
theorem nC {C:List Value} (h:fo P t=some (et,z)) (hC:gE P et=some C) (hy:tC P et=some y):oZ P t u v σ kv=jU z y C u v σ kv:=by simp[oZ,h,hC,hy]
theorem bL {C:List Value} (h:gE P t=some C):dJ P t σ kv=aC C (bK σ (.cells (C.map V.lit)) fun o σ'=>kv true (.ref o 0 0 0) σ'):=by simp[dJ,h]
theorem bE {C:List Value} {ps:List (Nat×V)} (h:gE P t=some C) (hg:QV P t=true) (hs:szs P t=true):dI P t ps F=aC C (az (aE P t) ps (C.map V.lit) fun l=>F true (.agg l)):=by simp[dI,h,hg,hs]
theorem av {pl:Nat→Option (Nat×Nat)} {r:List (Nat×V)} {us:List V} {G:List V→Prop} {x:Nat} (h:pl j=some (x,m)):az pl ((j,u)::r) us G=bX u fun c=>aJ c m (dp us x c fun l'=>az pl r l' G):=by simp[az,h]
@[go_sem ↓] theorem UU {pl:Nat→Option (Nat×Nat)} {us:List V} {G:List V→Prop}:az pl [] us G=G us:=(rfl)
theorem dm {ps:List (Nat×V)} (h:fo P t=some (et,z)) (hz:(gE P et).isSome=true∧0<z∧n*z≤16777216):gK P t n ps σ kv=fp z 0 ps fun l=>aJ l n (bK σ (.row z l) fun o σ'=>kv true (.sl o z 0 n) σ'):=by simp[gK,h,hz.1,hz.2.1,hz.2.2]
@[go_sem ↓] theorem X6 {G:List (List PV)→Prop}:fp z j [] G=G []:=(rfl)
@[go_sem ↓] theorem S8 {r:List (Nat×V)} {G:List (List PV)→Prop}:fp z j ((j,u)::r) G=bX u fun c=>aJ c z (nD c fun e=>fp z (j+1) r fun es=>G (e::es)):=by simp[fp]
end
@[go_sem] theorem ab4 {o:Nat}:mW [] o=true:=(rfl)
@[go_sem] theorem VR {p o:Nat} {π:Pi}:mW (some p::π) o=if p=o then false else mW π o:=by
 unfold mW
 by_cases h:p=o
 · subst h;simp
 · rw[if_neg h]
   have:¬(some o=some p):=fun e=>h (Option.some.inj e).symm
   simp[this]
@[go_sem] theorem We {p o:Nat} {F:List Nat}:List.contains (p::F) o=if p=o then true else List.contains F o:=by
 by_cases h:p=o
 · subst h;simp
 · rw[if_neg h]
   have:¬o=p:=fun e=>h e.symm
   simp[this]
section
variable {ok:Nat→Bool} {u:V} {m o z z' i i' off off' len z'':Nat} {l l' L:List (List PV)} {us:List V} {ps:List PV} {p:PV} {f:V→PV→Prop} {v v':Value}
@[go_sem ↓] theorem acy:F4 ok σ (m+1) (.ref o z' i' off') (.ptr z l i off)=(ok o=true∧oh σ o fun ob=>tO (F4 ok σ m) z l i off z' i' off' ob):=(rfl)
@[go_sem ↓] theorem ae6:F4 ok σ (m+1) (.sl o z off len) (.row z' l)=(z'=z∧ok o=true∧oh σ o fun ob=>tR (F4 ok σ m) z off len l ob):=(rfl)
@[go_sem ↓] theorem acv:F4 ok σ m (.lit v) (.lit v')=(v'=v):=by cases m<;>rfl
@[go_sem ↓] theorem aaM:F4 ok σ m (.row z l) (.row z' l')=(z'=z∧l'=l):=by cases m<;>rfl
@[go_sem ↓] theorem acK:F8 f [] []=True:=(rfl)
@[go_sem ↓] theorem Wh:F8 f (u::us) (p::ps)=(f u p∧F8 f us ps):=(rfl)
@[go_sem ↓] theorem R6:tO f z [ps] i off z' i' off' (.cells us)=(z=ps.length∧i=0∧off=uG z' i' off'∧F8 f us ps):=(rfl)
@[go_sem ↓] theorem adK:N7 f z us []=True:=by unfold N7;rfl
@[go_sem ↓] theorem VE:N7 f z us (ps::l)=(z≤us.length∧F8 f (us.take z) ps∧N7 f z (us.drop z) l):=(rfl)
@[go_sem ↓] theorem afw:tR f z off len l (.row z'' L)=vB (.row z'' L) z off len l:=(rfl)
@[go_sem ↓] theorem Y9:tR f z off len l (.cells us)=(off=0∧l.length=len∧N7 f z us l):=(rfl)
end
attribute [go_sem] V.ofP mV qn mO nM mG vB lY sD Gf yr wF tn zc kill r7 iZ j4 tj
end
def w9 {X:Type} (k:Nat) (st:X→Vg×St) (inv:X→Prop) (m:X→Nat) (x:X) (ρ:Vg) (σ:St):Prop:=∃x' π,Ko k π (st x').1 (st x').2 ρ σ∧inv x'∧m x'<m x
theorem aH {X:Type} {k:Nat} {st:X→Vg×St} {inv:X→Prop} {m:X→Nat} {x:X} {ρ:Vg} {σ:St} (x':X) (π:Pi) (h1:(Ev π (st x').2&&tA k π)=true) (h2:nM (mW π) π σ (st x').2 π) (h3:mG (mW π) π σ (st x').1 ρ) (hi:inv x') (hm:m x'<m x):w9 k st inv m x ρ σ:=⟨x',π,⟨h1,h2,h3⟩,hi,hm⟩
theorem aT {X:Type} {k:Nat} {body:Vg→St→gn→Prop} {ρ:Vg} {σ:St} {Q:gn} (st:X→Vg×St) (inv:X→Prop) (m:X→Nat) (x₀:X) (π:Pi) (h1:(Ev π (st x₀).2&&tA k π)=true) (h2:nM (mW π) π σ (st x₀).2 π) (h3:mG (mW π) π σ (st x₀).1 ρ) (hi:inv x₀)
 (round:∀x,inv x→body (st x).1 (st x).2 (mc (fun _=>w9 k st inv m x) Q)):xZ k body ρ σ Q:=by
 refine⟨fun c ρ σ=>∃x,c=m x∧(ρ,σ)=st x∧inv x,⟨_,π,(st x₀).1,(st x₀).2,⟨h1,h2,h3⟩,x₀,rfl,rfl,hi⟩,?_⟩;rintro c ρ σ ⟨x,rfl,e,hx⟩;have e1:(st x).1=ρ:=by rw[←e]
 have e2:(st x).2=σ:=by rw[←e]
 have:=round x hx
 rw[e1,e2] at this
 have e:(mc (fun _=>w9 k st inv m x) Q)=mc (fun _ ρ' σ'=>∃m' π ρ₀ σ₀,m'<m x∧Ko k π ρ₀ σ₀ ρ' σ'∧∃y,m'=m y∧(ρ₀,σ₀)=st y∧inv y) Q:=by
  funext τ e ρ σ
  cases e with
  | normal=>
    refine propext ⟨?_,?_⟩
    · rintro ⟨x',π,h1,h2,h3⟩;exact⟨_,π,_,_,h3,h1,x',rfl,rfl,h2⟩
    · rintro ⟨_,π,ρ₀,σ₀,h3,h1,x',rfl,e,h2⟩
      refine⟨x',π,?_,h2,h3⟩;rw[←e];exact h1
  | _=>rfl
 rw[←e];exact this
theorem lR {k:Nat} {Q:V→St→Prop} {u:V} {s:St} (π:Pi) (u₀:V) (s₀:St) (h1:(Ev π s₀&&tA k π)=true) (h2:nM (mW π) π s s₀ π) (h3:mV (mW π) π s u₀ u) (hq:Q u₀ s₀):te k Q u s:=⟨π,u₀,s₀,⟨h1,h2,h3⟩,hq⟩
section
variable {P:Program}
theorem PH {f:FuncId} {fn:Func} {c:Code} {vs:List V} {σ:St} {r:V} {s:St} (pl:aI) (hm:P.follows .mixedOrders=true) (hcf:∀(args:Array Value) (w:World),(callFunc f args).run P w=.ok (.enter f args) w)
 (hf:P.funcs[f]? =some fn) (hb:fn.body=some c) (hc:chk fn.ntmps pl c=true) (hs:Nat.ble vs.length fn.ntmps=true) (rs:List ResultVar) (hr:fn.results.toList=rs)
 (h:∀Q:V→St→Prop,Q r s→ei true P σ.length pl c (Fs 0 vs) σ (qA P rs (te σ.length Q))):aA P f vs σ r s:=
 Ns pl hm hcf hf hb hc hs rs hr (h _ ⟨rfl,rfl⟩)
theorem GA {e:Bool} {f:FuncId} {vs vs₀:List V} {σ σ₀ s:St} {r:V} {K:KV} (π:Pi) (F:List Nat) (spec:aA P f vs₀ σ₀ r s)
 (h1:(RX π&&π.all (fun p=>match p with | some p=>decide (p<σ.length)&&!F.contains p | none=>true))=true) (h2:nM F.contains π σ σ₀ π) (h3:qn F.contains π σ vs₀ vs) (he:e=true→σ₀=[])
 (hk:K true (lY (wF (iZ σ.length π) (σ.length+j4 π)) r) (r7 π F σ s)):dB P e f vs σ K:=
 wL π F spec ⟨h1,h2,h3⟩ he fun u s ⟨h4,h5⟩=>by rw[h4,h5];exact hk
def lh:V→Bool
 | .lit _=>true
 | .row _ _=>true
 | .xrow _ _=>true
 | .rref _ _ _ _=>true
 | .agg l=>plnL l
 | .tup l=>plnL l
 | .clo _ l=>plnL l
 | _=>false
where plnL:List V→Bool
 | []=>true
 | v::vs=>lh v&&plnL vs
mutual
theorem QC {ok:Nat→Bool} {π:Pi} {σ:St}:∀{v:V},lh v=true→mV ok π σ v v
 | .lit _,_=>by simp[mV]
 | .row _ _,_=>by simp[mV]
 | .xrow _ _,_=>by simp[mV]
 | .rref _ _ _ _,_=>by simp[mV]
 | .agg l,h=>by simp only[mV];exact lp h
 | .tup l,h=>by simp only[mV];exact lp h
 | .clo f l,h=>by simp only[mV];exact⟨trivial,lp h⟩
 | .ref _ _ _ _,h=>by simp[lh] at h
 | .sl _ _ _ _,h=>by simp[lh] at h
theorem lp {ok:Nat→Bool} {π:Pi} {σ:St}:∀{vs:List V},lh.plnL vs=true→qn ok π σ vs vs
 | [],_=>by simp[qn]
 | v::vs,h=>by
   simp only[lh.plnL,ajs] at h;simp only[qn];exact⟨QC h.1,lp h.2⟩
end
mutual
theorem yT {f:Nat→Nat}:∀{v:V},lh v=true→lY f v=v
 | .lit _,_=>rfl
 | .row _ _,_=>rfl
 | .xrow _ _,_=>rfl
 | .rref _ _ _ _,_=>rfl
 | .agg l,h=>by simp only[lY];rw[od h]
 | .tup l,h=>by simp only[lY];rw[od h]
 | .clo f l,h=>by simp only[lY];rw[od h]
 | .ref _ _ _ _,h=>by simp[lh] at h
 | .sl _ _ _ _,h=>by simp[lh] at h
theorem od {f:Nat→Nat}:∀{vs:List V},lh.plnL vs=true→sD f vs=vs
 | [],_=>rfl
 | v::vs,h=>by
   simp only[lh.plnL,ajs] at h;simp only[sD,yT h.1,od h.2]
end
theorem aB {e:Bool} {f:FuncId} {vs:List V} {σ:St} {r:V} {K:KV} (spec:aA P f vs [] r []) (hv:lh.plnL vs=true) (hr:lh r=true) (hk:K true r σ):dB P e f vs σ K:=by
 refine GA (σ₀:=[]) [] [] spec rfl (by simp[nM]) (lp hv) (fun _=>rfl) ?_;rw[yT hr];simpa [r7,tj,j4,iZ,kill,zc,tn] using hk
end
end Go.Vx
