import Derived.Test.YtcnlmelpnflhnaaGreatE5
namespace Go.Vx
open Go.Eng
set_option linter.unusedSimpArgs false
set_option linter.unusedVariables false
section
variable {P:Program} {k n:Nat} {pl:aK} {ρ:Vg} {σ:St} {Q:gG} {K:KR} {e:Bool}
@[go_sem ↓] theorem Tn:ek true P k pl .skip ρ σ Q=Q true .normal ρ σ:=(rfl)
@[go_sem ↓] theorem O9 {id:Nat} {l:List Oper}:ek true P k pl (.region id l.toArray false) ρ σ Q=opsV true P l.toArray l ρ σ fun τ=>Q τ .normal:=(rfl)
@[go_sem ↓] theorem Vy {id:Nat} {l:List Oper}:ek true P k pl (.region id l.toArray true) ρ σ Q=cg true P l.toArray (pl id) ρ σ fun τ=>Q τ .normal:=(rfl)
@[go_sem ↓] theorem Yn {a b:Code}:ek true P k pl (.seq a b) ρ σ Q=ek true P k pl a ρ σ (mf (fun τ ρ' σ'=>ek τ P k pl b ρ' σ' Q) Q):=(rfl)
@[go_sem ↓] theorem UO {c:Operand} {a b:Code}:ek true P k pl (.cond c a b) ρ σ Q=cw ρ c fun v=>AK v (fun τ=>ek τ P k pl a ρ σ Q) (fun τ=>ek τ P k pl b ρ σ Q):=(rfl)
@[go_sem ↓] theorem Rc {id:Nat} {c:Code}:ek true P k pl (.block id c) ρ σ Q=ek true P k pl c ρ σ (oL id Q):=(rfl)
@[go_sem ↓] theorem Ur {c:Code}:ek true P k pl (.loop c) ρ σ Q=yr k (ek true P k pl c) ρ σ Q:=(rfl)
@[go_sem ↓] theorem Vb {id:Nat}:ek true P k pl (.exit id) ρ σ Q=Q true (.exit id) ρ σ:=(rfl)
@[go_sem ↓] theorem YE:ek true P k pl .ret ρ σ Q=Q true .ret ρ σ:=(rfl)
@[go_sem ↓] theorem SG {c:Code}:ek true P k pl (.scope c) ρ σ Q=ek true P k pl c ρ σ (Bw Q):=(rfl)
@[go_sem ↓] theorem QQ {l:Nat}:ek true P k pl (.label l) ρ σ Q=Q true .normal ρ σ:=(rfl)
@[go_sem ↓] theorem QO:Bw Q true .ret ρ σ=Q true .ret ρ σ:=(rfl)
@[go_sem ↓] theorem Mw:mf K Q true .normal ρ σ=K true ρ σ:=(rfl)
@[go_sem ↓] theorem R9 {i:Nat}:mf K Q true (.exit i) ρ σ=Q true (.exit i) ρ σ:=(rfl)
@[go_sem ↓] theorem Wi:mf K Q true .ret ρ σ=Q true .ret ρ σ:=(rfl)
@[go_sem ↓] theorem LP {id:Nat}:oL id Q true .normal ρ σ=Q true .normal ρ σ:=(rfl)
@[go_sem ↓] theorem PU {id i:Nat}:oL id Q true (.exit i) ρ σ=if i=id then Q true .normal ρ σ else Q true (.exit i) ρ σ:=(rfl)
@[go_sem ↓] theorem Q7 {id:Nat}:oL id Q true .ret ρ σ=Q true .ret ρ σ:=(rfl)
variable {rs:List ResultVar} {R:V→St→Prop} {KV':List V→Prop}
@[go_sem ↓] theorem Mh:qV P rs R true .normal ρ σ=dv P rs ρ σ fun vs=>R (mA vs) σ:=(rfl)
@[go_sem ↓] theorem Uf:qV P rs R true .ret ρ σ=dv P rs ρ σ fun vs=>R (mA vs) σ:=(rfl)
@[go_sem ↓] theorem MF:dv P [] ρ σ KV'=KV' []:=(rfl)
@[go_sem ↓] theorem MJ {t:Nat}:dv P (.tmp t::rs) ρ σ KV'=kx ρ t fun v=>dv P rs ρ σ fun vs=>KV' (v::vs):=(rfl)
@[go_sem ↓] theorem Lo {t ty:Nat}:dv P (.cell t ty::rs) ρ σ KV'=kx ρ t fun p=>fr P ty p σ fun _ v=>dv P rs ρ σ fun vs=>KV' (v::vs):=(rfl)
@[go_sem ↓] theorem Tw (v:V):mA [v]=v:=(rfl)
@[go_sem ↓] theorem TT (v u:V):mA [v,u]=.tup [v,u]:=(rfl)
@[go_sem ↓] theorem Ql (v u x:V):mA [v,u,x]=.tup [v,u,x]:=(rfl)
@[go_sem ↓] theorem QU:mA []=.tup []:=(rfl)
@[go_sem ↓] theorem abf {i:Nat}:Gg i []=[]:=(rfl)
@[go_sem ↓] theorem Yp {i:Nat} {v:V} {r:List V}:Gg i (v::r)=(i,v)::Gg (i+1) r:=(rfl)
variable {KO:V→Prop}
@[go_sem ↓] theorem Kj {s t:Nat} {v:V} {r:Vg}:kx ((s,v)::r) t KO=if s=t then KO v else kx r t KO:=by
 unfold kx;rw[iE]
 by_cases h:s=t
 · rw[if_pos h,if_pos h]
 · rw[if_neg h,if_neg h]
@[go_sem ↓] theorem afB {i t:Nat} {v:V} {r:List V}:kx (Gg i (v::r)) t KO=if i=t then KO v else kx (Gg (i+1) r) t KO:=Kj
@[go_sem ↓] theorem aey {t:Nat}:cw ρ (.tmp t) KO=kx ρ t KO:=(rfl)
@[go_sem ↓] theorem S7 {v:Value}:cw ρ (.const v) KO=rj v KO:=(rfl)
@[go_sem ↓] theorem WL {f:Nat}:cw ρ (.func f) KO=KO (.clo f []):=(rfl)
@[go_sem ↓] theorem ZV {i:IntKind} {a:Int}:rj (.int i a) KO=KO (.lit (.int i a)):=(rfl)
@[go_sem ↓] theorem Ub {b:Bool}:rj (.bool b) KO=KO (.lit (.bool b)):=(rfl)
@[go_sem ↓] theorem Qg {s:ByteArray}:rj (.string s) KO=KO (.lit (.string s)):=(rfl)
@[go_sem ↓] theorem No {a:Option Addr}:rj (.pointer a) KO=KO (.lit (.pointer a)):=(rfl)
@[go_sem ↓] theorem SB {a:Option Addr} {l c:Nat}:rj (.slice a l c) KO=KO (.lit (.slice a l c)):=(rfl)
@[go_sem ↓] theorem Lr:rj .nilIface KO=KO (.lit .nilIface):=(rfl)
@[go_sem ↓] theorem ZP:kA ρ [] KV'=KV' []:=(rfl)
@[go_sem ↓] theorem SO {x:Operand} {xs:List Operand}:kA ρ (x::xs) KV'=cw ρ x fun v=>kA ρ xs fun vs=>KV' (v::vs):=(rfl)
variable {KP:List (Nat×V)→Prop} {KM:Option V→Prop}
@[go_sem ↓] theorem Zu:tb ρ [] KP=KP []:=(rfl)
@[go_sem ↓] theorem SU {i:Nat} {x:Operand} {xs:List (Nat×Operand)}:tb ρ ((i,x)::xs) KP=cw ρ x fun v=>tb ρ xs fun vs=>KP ((i,v)::vs):=(rfl)
@[go_sem ↓] theorem V4:jR ρ none KM=KM none:=(rfl)
@[go_sem ↓] theorem UF {x:Operand}:jR ρ (some x) KM=cw ρ x fun v=>KM (some v):=(rfl)
@[go_sem ↓] theorem VY {d:Nat} {v:V}:bw ρ (some d) v=(d,v)::ρ:=(rfl)
@[go_sem ↓] theorem VK {v:V}:bw ρ none v=ρ:=(rfl)
variable {all r:List Oper} {d:Option Nat} {dn:Nat} {op:Op} {ty t s:TypeId} {pos:String} {af:Array Edge} {g:Option (Nat×Bool)} {kv:KV} {F:FV}
@[go_sem ↓] theorem aaJ:opsV true P all.toArray [] ρ σ K=K true ρ σ:=(rfl)
@[go_sem ↓] theorem T4:opsV true P all.toArray (⟨some dn,op,ty,pos,af,none⟩::r) ρ σ K=eK true false P ⟨some dn,op,ty,pos,af,none⟩ ρ σ fun τ v σ'=>opsV τ P all.toArray r ((dn,v)::ρ) σ' K:=(rfl)
@[go_sem ↓] theorem V5:opsV true P all.toArray (⟨none,op,ty,pos,af,none⟩::r) ρ σ K=eK true false P ⟨none,op,ty,pos,af,none⟩ ρ σ fun τ _ σ'=>opsV τ P all.toArray r ρ σ' K:=(rfl)
@[go_sem ↓] theorem GM {j:Nat} {want:Bool}:opsV true P all.toArray (⟨some dn,op,ty,pos,af,some (j,want)⟩::r) ρ σ K=
 ua all j fun t=>kx ρ t fun g=>oG g want (fun τ=>eK τ false P ⟨some dn,op,ty,pos,af,some (j,want)⟩ ρ σ fun τ v σ'=>opsV τ P all.toArray r ((dn,v)::ρ) σ' K) (fun τ=>opsV τ P all.toArray r ((dn,.tup [])::ρ) σ K):=by
 rw[wb];simp only[opsV,alp]
 rfl
@[go_sem ↓] theorem Yo:cg true P all.toArray [] ρ σ K=K true ρ σ:=(rfl)
@[go_sem ↓] theorem afD {i q:Nat} {S:List (Nat×Nat×Nat)}:cg true P all.toArray ((i,0,q)::S) ρ σ K=bW all i fun o=>gP true P all.toArray o ρ σ 0 fun τ ρ' σ'=>cg τ P all.toArray S ρ' σ' K:=(rfl)
@[go_sem ↓] theorem ahs {i q:Nat} {S:List (Nat×Nat×Nat)}:cg true P all.toArray ((i,1,q)::S) ρ σ K=bW all i fun o=>gP true P all.toArray o ρ σ 1 fun τ ρ' σ'=>cg τ P all.toArray S ρ' σ' K:=(rfl)
@[go_sem ↓] theorem agm {i q:Nat} {S:List (Nat×Nat×Nat)}:cg true P all.toArray ((i,2,q)::S) ρ σ K=bW all i fun o=>gP true P all.toArray o ρ σ 2 fun τ ρ' σ'=>cg τ P all.toArray S ρ' σ' K:=(rfl)
@[go_sem ↓] theorem aht {i q:Nat} {S:List (Nat×Nat×Nat)}:cg true P all.toArray ((i,3,q)::S) ρ σ K=bW all i fun o=>eK true true P o ρ σ fun τ u σ'=>cg τ P all.toArray S (bw ρ o.dst u) σ' K:=(rfl)
@[go_sem ↓] theorem ahy {i q:Nat} {S:List (Nat×Nat×Nat)}:cg true P all.toArray ((i,4,q)::S) ρ σ K=bW all i fun o=>Pk ρ o.dst (eK true true P o ρ σ fun τ _ _=>cg τ P all.toArray S ρ σ K):=(rfl)
@[go_sem ↓] theorem ag6 {i q:Nat} {S:List (Nat×Nat×Nat)}:cg true P all.toArray ((i,5,q)::S) ρ σ K=bW all i fun o=>iT true P o ρ fun τ u=>cg τ P all.toArray S (bw ρ o.dst u) σ K:=(rfl)
@[go_sem ↓] theorem ahG {i q:Nat} {S:List (Nat×Nat×Nat)}:cg true P all.toArray ((i,8,q)::S) ρ σ K=bW all i fun o=>bW all q fun p=>eK true true P o ρ σ fun τ u _=>eK τ false P p ρ σ fun τ _ σ1=>eK τ true P o ρ σ1 fun τ u2 _=>th u2 u (cg τ P all.toArray S (bw ρ o.dst u) σ1 K):=(rfl)
@[go_sem ↓] theorem U4 {S:List (Nat×Nat×Nat)} {rm:Nat}:bN P all.toArray S 0 rm true ρ σ K=K true ρ σ:=(rfl)
@[go_sem ↓] theorem T8 {u:V} {p:Prop}:th u u p=p:=by simp[th]
@[go_sem ↓] theorem abp {q:Nat} {p:Prop}:Pk [] (some q) p=p:=(rfl)
@[go_sem ↓] theorem WZ {q s:Nat} {u:V} {p:Prop} (h:s≠q):Pk ((s,u)::ρ) (some q) p=Pk ρ (some q) p:=by simp[Pk,iE,h]
@[go_sem ↓] theorem RD {tag:Nat}:gP true P all.toArray ⟨some dn,op,ty,pos,af,none⟩ ρ σ tag K=da true P ⟨some dn,op,ty,pos,af,none⟩ ρ σ tag fun τ v σ'=>K τ ((dn,v)::ρ) σ':=(rfl)
@[go_sem ↓] theorem SD {tag:Nat}:gP true P all.toArray ⟨none,op,ty,pos,af,none⟩ ρ σ tag K=da true P ⟨none,op,ty,pos,af,none⟩ ρ σ tag fun τ _ σ'=>K τ ρ σ':=(rfl)
@[go_sem ↓] theorem Fh {tag j:Nat} {want:Bool}:gP true P all.toArray ⟨some dn,op,ty,pos,af,some (j,want)⟩ ρ σ tag K=
 ua all j fun t=>kx ρ t fun g=>oG g want (fun τ=>da τ P ⟨some dn,op,ty,pos,af,some (j,want)⟩ ρ σ tag fun τ v σ'=>K τ ((dn,v)::ρ) σ') (fun τ=>K τ ((dn,.tup [])::ρ) σ):=by
 rw[wb];simp only[gP,alp]
 rfl
@[go_sem ↓] theorem Tc {o:Oper}:da true P o ρ σ 0 kv=nz true P o ρ σ fun τ v=>kv τ v σ:=(rfl)
@[go_sem ↓] theorem Zl {o:Oper}:da true P o ρ σ 1 kv=eK true true P o ρ σ kv:=(rfl)
@[go_sem ↓] theorem aag {o:Oper}:da true P o ρ σ 2 kv=eK true false P o ρ σ kv:=(rfl)
section
variable {A B:Bool→Prop} {p:Prop} [Decidable p]
@[go_sem ↓] theorem afR:oG (.lit (.bool true)) true A B=A true:=(rfl)
@[go_sem ↓] theorem agM:oG (.lit (.bool false)) false A B=A true:=(rfl)
@[go_sem ↓] theorem agf:oG (.lit (.bool true)) false A B=B true:=(rfl)
@[go_sem ↓] theorem ahI:oG (.lit (.bool false)) true A B=B true:=(rfl)
@[go_sem ↓] theorem Vd {want:Bool}:oG (.tup []) want A B=B true:=(rfl)
@[go_sem ↓] theorem YI (h:p):oG (.lit (.bool (decide p))) true A B=A true:=by simp[oG,h]
@[go_sem ↓] theorem YY (h:¬p):oG (.lit (.bool (decide p))) true A B=B true:=by simp[oG,h]
@[go_sem ↓] theorem Xl (h:p):oG (.lit (.bool (decide p))) false A B=B true:=by simp[oG,h]
@[go_sem ↓] theorem Xo (h:¬p):oG (.lit (.bool (decide p))) false A B=A true:=by simp[oG,h]
@[go_sem ↓] theorem Vs (h:p):oG (.lit (.bool (!decide p))) true A B=B true:=by simp[oG,h]
@[go_sem ↓] theorem Ui (h:¬p):oG (.lit (.bool (!decide p))) true A B=A true:=by simp[oG,h]
@[go_sem ↓] theorem Vz (h:p):oG (.lit (.bool (!decide p))) false A B=A true:=by simp[oG,h]
@[go_sem ↓] theorem Uw (h:¬p):oG (.lit (.bool (!decide p))) false A B=B true:=by simp[oG,h]
@[go_sem ↓] theorem aau:AK (.lit (.bool true)) A B=A true:=by simp[AK]
@[go_sem ↓] theorem Vo:AK (.lit (.bool false)) A B=B true:=by simp[AK]
@[go_sem ↓] theorem aeT (h:p):AK (.lit (.bool (decide p))) A B=A true:=by simp[AK,h]
@[go_sem ↓] theorem aeW (h:¬p):AK (.lit (.bool (decide p))) A B=B true:=by simp[AK,h]
@[go_sem ↓] theorem aaM (h:p):AK (.lit (.bool (!decide p))) A B=B true:=by simp[AK,h]
@[go_sem ↓] theorem XI (h:¬p):AK (.lit (.bool (!decide p))) A B=A true:=by simp[AK,h]
variable {x y:V}
@[go_sem ↓] theorem RE:gO (.lit (.bool true)) x y F=F true x:=(rfl)
@[go_sem ↓] theorem PM:gO (.lit (.bool false)) x y F=F true y:=(rfl)
@[go_sem ↓] theorem Ul (h:p):gO (.lit (.bool (decide p))) x y F=F true x:=by simp[gO,h]
@[go_sem ↓] theorem Tu (h:¬p):gO (.lit (.bool (decide p))) x y F=F true y:=by simp[gO,h]
@[go_sem ↓] theorem RM (h:p):gO (.lit (.bool (!decide p))) x y F=F true y:=by simp[gO,h]
@[go_sem ↓] theorem RN (h:¬p):gO (.lit (.bool (!decide p))) x y F=F true x:=by simp[gO,h]
end
variable {x y c a b:Operand} {j:Nat}
@[go_sem ↓] theorem aaL:eK true e P ⟨d,.move x,ty,pos,af,g⟩ ρ σ kv=cw ρ x fun u=>kv true u σ:=(rfl)
@[go_sem ↓] theorem To:iT true P ⟨d,.move x,ty,pos,af,g⟩ ρ F=cw ρ x fun u=>F true u:=(rfl)
@[go_sem ↓] theorem SL:nz true P ⟨d,.move x,ty,pos,af,g⟩ ρ σ F=cw ρ x fun u=>F true u:=(rfl)
@[go_sem ↓] theorem Rj:eK true e P ⟨d,.assign x,ty,pos,af,g⟩ ρ σ kv=cw ρ x fun u=>kv true u σ:=(rfl)
@[go_sem ↓] theorem P9:iT true P ⟨d,.assign x,ty,pos,af,g⟩ ρ F=cw ρ x fun u=>F true u:=(rfl)
@[go_sem ↓] theorem Ww:eK true e P ⟨d,.pick c x y,ty,pos,af,g⟩ ρ σ kv=cw ρ c fun c=>cw ρ x fun x=>cw ρ y fun y=>gO c x y fun τ u=>kv τ u σ:=(rfl)
@[go_sem ↓] theorem Us:iT true P ⟨d,.pick c x y,ty,pos,af,g⟩ ρ F=cw ρ c fun c=>cw ρ x fun x=>cw ρ y fun y=>gO c x y F:=(rfl)
@[go_sem ↓] theorem Th:nz true P ⟨d,.pick c x y,ty,pos,af,g⟩ ρ σ F=cw ρ c fun c=>cw ρ x fun x=>cw ρ y fun y=>gO c x y F:=(rfl)
@[go_sem ↓] theorem On:eK true e P ⟨d,.nilCheck x,ty,pos,af,g⟩ ρ σ kv=cw ρ x fun u=>Ph u fun τ u=>kv τ u σ:=(rfl)
@[go_sem ↓] theorem Lm:iT true P ⟨d,.nilCheck x,ty,pos,af,g⟩ ρ F=cw ρ x fun u=>Ph u F:=(rfl)
@[go_sem ↓] theorem LI:nz true P ⟨d,.nilCheck x,ty,pos,af,g⟩ ρ σ F=cw ρ x fun u=>Ph u F:=(rfl)
@[go_sem ↓] theorem Ty {bo:BinOp}:eK true e P ⟨d,.binOp bo t x y s,ty,pos,af,g⟩ ρ σ kv=cw ρ x fun u=>cw ρ y fun v=>kc P bo t y u v fun τ u=>kv τ u σ:=(rfl)
@[go_sem ↓] theorem Rh {bo:BinOp}:iT true P ⟨d,.binOp bo t x y s,ty,pos,af,g⟩ ρ F=cw ρ x fun u=>cw ρ y fun v=>kc P bo t y u v F:=(rfl)
@[go_sem ↓] theorem RT {bo:BinOp}:nz true P ⟨d,.binOp bo t x y s,ty,pos,af,g⟩ ρ σ F=cw ρ x fun u=>cw ρ y fun v=>kc P bo t y u v F:=(rfl)
@[go_sem ↓] theorem aay {uo:UnOp}:eK true e P ⟨d,.unOp uo t x,ty,pos,af,g⟩ ρ σ kv=cw ρ x fun u=>xj uo u fun τ u=>kv τ u σ:=(rfl)
@[go_sem ↓] theorem Tq {uo:UnOp}:nz true P ⟨d,.unOp uo t x,ty,pos,af,g⟩ ρ σ F=cw ρ x fun u=>xj uo u F:=(rfl)
@[go_sem ↓] theorem PR:eK true e P ⟨d,.convert s t x,ty,pos,af,g⟩ ρ σ kv=cw ρ x fun u=>og P s t u σ kv:=(rfl)
@[go_sem ↓] theorem M3:iT true P ⟨d,.convert s t x,ty,pos,af,g⟩ ρ F=cw ρ x fun u=>nq P s t u F:=(rfl)
@[go_sem ↓] theorem LV:nz true P ⟨d,.convert s t x,ty,pos,af,g⟩ ρ σ F=cw ρ x fun u=>gC P s t u σ F:=(rfl)
@[go_sem ↓] theorem SM {lo hi mx:Option Operand}:eK true e P ⟨d,.slice t x lo hi mx,ty,pos,af,g⟩ ρ σ kv=cw ρ x fun x=>jR ρ lo fun lo=>jR ρ hi fun hi=>jR ρ mx fun mx=>Bf P t x lo hi mx σ fun τ u=>kv τ u σ:=(rfl)
@[go_sem ↓] theorem SK {lo hi mx:Option Operand}:iT true P ⟨d,.slice t x lo hi mx,ty,pos,af,g⟩ ρ F=cw ρ x fun x=>jR ρ lo fun lo=>jR ρ hi fun hi=>jR ρ mx fun mx=>mF P t x lo hi mx F:=(rfl)
@[go_sem ↓] theorem Lq:eK true e P ⟨d,.fieldAddr t x j,ty,pos,af,g⟩ ρ σ kv=cw ρ x fun u=>aN P t u j fun τ u=>kv τ u σ:=(rfl)
@[go_sem ↓] theorem J0:iT true P ⟨d,.fieldAddr t x j,ty,pos,af,g⟩ ρ F=cw ρ x fun u=>aN P t u j F:=(rfl)
@[go_sem ↓] theorem K5:nz true P ⟨d,.fieldAddr t x j,ty,pos,af,g⟩ ρ σ F=cw ρ x fun u=>aN P t u j F:=(rfl)
@[go_sem ↓] theorem Lw:eK true e P ⟨d,.indexAddr t x y,ty,pos,af,g⟩ ρ σ kv=cw ρ x fun u=>cw ρ y fun v=>cW P t u v fun τ u=>kv τ u σ:=(rfl)
@[go_sem ↓] theorem I0:iT true P ⟨d,.indexAddr t x y,ty,pos,af,g⟩ ρ F=cw ρ x fun u=>cw ρ y fun v=>cW P t u v F:=(rfl)
@[go_sem ↓] theorem T3:eK true e P ⟨d,.index t x y,ty,pos,af,g⟩ ρ σ kv=cw ρ x fun u=>cw ρ y fun v=>qb P t u v fun τ u=>kv τ u σ:=(rfl)
@[go_sem ↓] theorem O2:eK true e P ⟨d,.extract x j,ty,pos,af,g⟩ ρ σ kv=cw ρ x fun u=>EN u j fun τ u=>kv τ u σ:=(rfl)
@[go_sem ↓] theorem OB:iT true P ⟨d,.extract x j,ty,pos,af,g⟩ ρ F=cw ρ x fun u=>EN u j F:=(rfl)
@[go_sem ↓] theorem TP {ps:List (Nat×Operand)}:eK true e P ⟨d,.build t ps.toArray,ty,pos,af,g⟩ ρ σ kv=tb ρ ps fun vs=>dO P t vs fun τ u=>kv τ u σ:=(rfl)
@[go_sem ↓] theorem QV {ps:List (Nat×Operand)}:iT true P ⟨d,.build t ps.toArray,ty,pos,af,g⟩ ρ F=tb ρ ps fun vs=>dO P t vs F:=(rfl)
@[go_sem ↓] theorem DD:eK true e P ⟨d,.makeInterface t x,ty,pos,af,g⟩ ρ σ kv=cw ρ x fun u=>vN P t u fun τ u=>kv τ u σ:=(rfl)
@[go_sem ↓] theorem UX:nz true P ⟨d,.load t x,ty,pos,af,g⟩ ρ σ F=cw ρ x fun u=>fr P t u σ F:=(rfl)
@[go_sem ↓] theorem YT:eK true e P ⟨d,.load t x,ty,pos,af,g⟩ ρ σ kv=cw ρ x fun u=>fr P t u σ fun τ v=>kv τ v σ:=(rfl)
@[go_sem ↓] theorem VS:eK true false P ⟨d,.store t x y,ty,pos,af,g⟩ ρ σ kv=cw ρ x fun u=>cw ρ y fun v=>fM P t u v σ fun τ σ'=>kv τ (.tup []) σ':=(rfl)
@[go_sem ↓] theorem Yh {xs:List Operand}:nz true P ⟨d,.call {callee:=.builtin .len,args:=xs.toArray,argTypes:=[t].toArray},ty,pos,af,g⟩ ρ σ F=kA ρ xs fun us=>eL P true .len [t] us σ fun τ v _=>F τ v:=(rfl)
@[go_sem ↓] theorem Tr:eK true e P ⟨d,.alloc t,ty,pos,af,g⟩ ρ σ kv=dP P t σ kv:=(rfl)
@[go_sem ↓] theorem ae4:eK true e P ⟨d,.box t x,ty,pos,af,g⟩ ρ σ kv=cw ρ x fun u=>MX u σ kv:=(rfl)
@[go_sem ↓] theorem Jn {ps:List (Nat×Operand)}:eK true e P ⟨d,.buildSlice t n ps.toArray,ty,pos,af,g⟩ ρ σ kv=tb ρ ps fun vs=>gV P t n vs σ kv:=(rfl)
@[go_sem ↓] theorem LA:eK true e P ⟨d,.makeSlice t x y,ty,pos,af,g⟩ ρ σ kv=cw ρ x fun l=>cw ρ y fun c=>pq P t l c σ kv:=(rfl)
@[go_sem ↓] theorem NX {f:Nat} {cs:List Operand}:eK true e P ⟨d,.makeFunc (.func f) #[] cs.toArray,ty,pos,af,g⟩ ρ σ kv=kA ρ cs fun c=>kv true (.clo f c) σ:=(rfl)
@[go_sem ↓] theorem aaO {f:Operand} {xs:List Operand} {ats:Array TypeId}:eK true e P ⟨d,.call {callee:=.value f,args:=xs.toArray,argTypes:=ats},ty,pos,af,g⟩ ρ σ kv=cw ρ f fun f=>kA ρ xs fun args=>OM P e f args σ kv:=(rfl)
@[go_sem ↓] theorem Rv {rc:Operand} {nm:String} {xs:List Operand} {ats:Array TypeId}:eK true e P ⟨d,.call {callee:=.invoke rc nm,args:=xs.toArray,argTypes:=ats},ty,pos,af,g⟩ ρ σ kv=cw ρ rc fun u=>kA ρ xs fun args=>p9 P e u nm args σ kv:=(rfl)
@[go_sem ↓] theorem PK {b:Builtin} {xs:List Operand} {ats:List TypeId}:eK true e P ⟨d,.call {callee:=.builtin b,args:=xs.toArray,argTypes:=ats.toArray},ty,pos,af,g⟩ ρ σ kv=kA ρ xs fun args=>eL P e b ats args σ kv:=(rfl)
@[go_sem ↓] theorem aaj {f:Nat} {cs args:List V}:OM P e (.clo f cs) args σ kv=dT P e f (args++cs) σ kv:=(rfl)
@[go_sem ↓] theorem Qi {t tx:TypeId} {u x:V}:eL P e .append [t,tx] [u,x] σ kv=mW P e t tx u x σ kv:=(rfl)
@[go_sem ↓] theorem Ua {t tx:TypeId} {u x:V}:eL P false .copy [t,tx] [u,x] σ kv=AQ P t tx u x σ kv:=(rfl)
@[go_sem ↓] theorem YH {ts:List TypeId} {us:List V}:eL P e .min ts us σ kv=GD .min us fun τ u=>kv τ u σ:=(rfl)
@[go_sem ↓] theorem aa3 {ts:List TypeId} {us:List V}:eL P e .max ts us σ kv=GD .max us fun τ u=>kv τ u σ:=(rfl)
variable {i1 i2 i3 i4:IntKind} {n1 n2 n3 n4:Int}
@[go_sem ↓] theorem YJ:GD .min [.lit (.int i1 n1),.lit (.int i2 n2)] F=F true (.lit (.int i1 (min n1 n2))):=(rfl)
@[go_sem ↓] theorem XR:GD .max [.lit (.int i1 n1),.lit (.int i2 n2)] F=F true (.lit (.int i1 (max n1 n2))):=(rfl)
section
variable {bo:BinOp} {yy:Operand} {u v:V} {t s:TypeId}
@[go_sem ↓] theorem aak {i:IntKind} {a:Int}:kc P bo t yy (.lit (.int i a)) v F=aQ P bo t (.lit (.int i a)) v F:=(rfl)
@[go_sem ↓] theorem TO {a:Bool}:kc P bo t yy (.lit (.bool a)) v F=aQ P bo t (.lit (.bool a)) v F:=(rfl)
@[go_sem ↓] theorem Zc {a:Option Addr}:kc P bo t yy (.lit (.pointer a)) v F=aQ P bo t (.lit (.pointer a)) v F:=(rfl)
@[go_sem ↓] theorem Z8 {z:Nat} {l:List (List PV)}:kc P bo t yy (.row z l) v F=aQ P bo t (.row z l) v F:=(rfl)
@[go_sem ↓] theorem ZF {o z i off:Nat}:kc P bo t yy (.ref o z i off) v F=aQ P bo t (.ref o z i off) v F:=(rfl)
@[go_sem ↓] theorem SV {z i off:Nat} {l:List (List PV)}:kc P bo t yy (.rref z l i off) v F=aQ P bo t (.rref z l i off) v F:=(rfl)
@[go_sem ↓] theorem ZY {l:List V}:kc P bo t yy (.agg l) v F=aQ P bo t (.agg l) v F:=(rfl)
theorem lM {nm:String} {f:FuncId} {i:IntKind} {a:Int} {args:List V} (h:Mo P t nm=some f):p9 P e (.lit (.iface t (.int i a))) nm args σ kv=dT P e f (.lit (.int i a)::args) σ kv:=by unfold p9;simp only[h]
theorem vW {i k:IntKind} {a:Int} (h:P.underlying t=some (.int k)):vN P t (.lit (.int i a)) F=F true (.lit (.iface t (.int i a))):=by unfold vN;simp only[h]
theorem JO {s:TypeId} {a:Value} (h:pX P t=true):kc P .eql t (.const .nilIface) (.lit (.iface s a)) (.lit .nilIface) F=F true (.lit (.bool false)):=by simp[kc,h,ph,dB,ib,isEq]
theorem HF (h:pX P t=true):kc P .eql t (.const .nilIface) (.lit .nilIface) (.lit .nilIface) F=F true (.lit (.bool true)):=by simp[kc,h,ph,dB,ib,isEq]
theorem gD (h:(kt P s).isSome=true):og P s t u σ kv=gC P s t u σ fun τ u=>kv τ u σ:=by
 unfold og;rw[if_neg];rintro ⟨h1,_⟩;unfold kt at h;unfold isStr at h1
 cases hq:P.underlying s with
 | none=>rw[hq] at h1;cases h1
 | some d=>rw[hq] at h h1;cases d<;>first | (simp at h;done) | (simp at h1;done)
end
section
variable {i j:IntKind} {a b:Int}
theorem bz {bo:BinOp} {r:Value} (h0:Rq bo=false) (h:la bo i a b=some r):aQ P bo t (.lit (.int i a)) (.lit (.int i b)) F=F true (.lit r):=by simp[aQ,h0,h,dB]
theorem gW {bo:BinOp} {r:Value} (h0:Rq bo=true) (h:Dl bo i a b=some r):aQ P bo t (.lit (.int i a)) (.lit (.int j b)) F=F true (.lit r):=by simp[aQ,h0,h,dB]
@[go_sem ↓] theorem Wu:aQ P .add t (.lit (.int i a)) (.lit (.int i b)) F=F true (.lit (.int i (i.wrap (a+b)))):=bz rfl rfl
@[go_sem ↓] theorem aan:aQ P .sub t (.lit (.int i a)) (.lit (.int i b)) F=F true (.lit (.int i (i.wrap (a-b)))):=bz rfl rfl
@[go_sem ↓] theorem W8:aQ P .mul t (.lit (.int i a)) (.lit (.int i b)) F=F true (.lit (.int i (i.wrap (a*b)))):=bz rfl rfl
@[go_sem ↓] theorem Yx (h:b≠0):aQ P .quo t (.lit (.int i a)) (.lit (.int i b)) F=F true (.lit (.int i (i.wrap (a.tdiv b)))):=bz rfl (by simp[la,h])
@[go_sem ↓] theorem aaE (h:b≠0):aQ P .rem t (.lit (.int i a)) (.lit (.int i b)) F=F true (.lit (.int i (a.tmod b))):=bz rfl (by simp[la,h])
@[go_sem ↓] theorem WD:aQ P .lss t (.lit (.int i a)) (.lit (.int i b)) F=F true (.lit (.bool (decide (a<b)))):=bz rfl rfl
@[go_sem ↓] theorem XK:aQ P .leq t (.lit (.int i a)) (.lit (.int i b)) F=F true (.lit (.bool (decide (a≤b)))):=bz rfl rfl
@[go_sem ↓] theorem aat:aQ P .gtr t (.lit (.int i a)) (.lit (.int i b)) F=F true (.lit (.bool (decide (b<a)))):=bz rfl rfl
@[go_sem ↓] theorem XJ:aQ P .geq t (.lit (.int i a)) (.lit (.int i b)) F=F true (.lit (.bool (decide (b≤a)))):=bz rfl rfl
@[go_sem ↓] theorem Ye:aQ P .eql t (.lit (.int i a)) (.lit (.int i b)) F=F true (.lit (.bool (decide (a=b)))):=bz rfl rfl
@[go_sem ↓] theorem XY:aQ P .neq t (.lit (.int i a)) (.lit (.int i b)) F=F true (.lit (.bool (!decide (a=b)))):=bz rfl rfl
@[go_sem ↓] theorem aaA:aQ P .and t (.lit (.int i a)) (.lit (.int i b)) F=F true (.lit (.int i (bS .and i a b))):=bz rfl rfl
@[go_sem ↓] theorem ad1:aQ P .or t (.lit (.int i a)) (.lit (.int i b)) F=F true (.lit (.int i (bS .or i a b))):=bz rfl rfl
@[go_sem ↓] theorem aaN:aQ P .xor t (.lit (.int i a)) (.lit (.int i b)) F=F true (.lit (.int i (bS .xor i a b))):=bz rfl rfl
@[go_sem ↓] theorem PJ:aQ P .andNot t (.lit (.int i a)) (.lit (.int i b)) F=F true (.lit (.int i (bS .andNot i a b))):=bz rfl rfl
@[go_sem ↓ high] theorem Lv {m:Nat} (h:m≤64):aQ P .shl t (.lit (.int .i64 a)) (.lit (.int j (m:Int))) F=F true (.lit (.int .i64 (IntKind.i64.wrap (a*2^m)))):=by
 refine gW rfl ?_;simp only[Dl];rw[if_pos (by omega)];simp only[ak0];rw[alh (by simpa [IntKind.bits] using h)]
@[go_sem ↓ high] theorem LD {m:Nat} (h:m≤64):aQ P .shr t (.lit (.int .i64 a)) (.lit (.int j (m:Int))) F=F true (.lit (.int .i64 (a/2^m))):=by
 refine gW rfl ?_;simp only[Dl];rw[if_pos (by omega)];simp only[ak0];rw[alh (by simpa [IntKind.bits] using h)]
@[go_sem ↓] theorem oc (h:0≤b∧b≤64):aQ P .shl t (.lit (.int .u64 a)) (.lit (.int j b)) F=F true (.lit (.int .u64 (IntKind.u64.wrap (a*2^b.toNat)))):=by
 refine gW rfl ?_;simp only[Dl];rw[if_pos (by omega),alh (by simp only[IntKind.bits];omega)]
@[go_sem ↓] theorem fF (h:0≤b∧b≤64):aQ P .shr t (.lit (.int .u64 a)) (.lit (.int j b)) F=F true (.lit (.int .u64 (a/2^b.toNat))):=by
 refine gW rfl ?_;simp only[Dl];rw[if_pos (by omega),alh (by simp only[IntKind.bits];omega)]
@[go_sem ↓ high] theorem LF {m:Nat} (h:m≤64):aQ P .shl t (.lit (.int .u64 a)) (.lit (.int j (m:Int))) F=F true (.lit (.int .u64 (IntKind.u64.wrap (a*2^m)))):=by
 refine gW rfl ?_;simp only[Dl];rw[if_pos (by omega)];simp only[ak0];rw[alh (by simpa [IntKind.bits] using h)]
@[go_sem ↓ high] theorem LN {m:Nat} (h:m≤64):aQ P .shr t (.lit (.int .u64 a)) (.lit (.int j (m:Int))) F=F true (.lit (.int .u64 (a/2^m))):=by
 refine gW rfl ?_;simp only[Dl];rw[if_pos (by omega)];simp only[ak0];rw[alh (by simpa [IntKind.bits] using h)]
@[go_sem ↓] theorem nr (h:0≤b∧b≤32):aQ P .shr t (.lit (.int .u32 a)) (.lit (.int j b)) F=F true (.lit (.int .u32 (a/2^b.toNat))):=by
 refine gW rfl ?_;simp only[Dl];rw[if_pos (by omega),alh (by simp only[IntKind.bits];omega)]
@[go_sem ↓] theorem OU (h:0≤b∧b≤8):aQ P .shl t (.lit (.int .u8 a)) (.lit (.int j b)) F=F true (.lit (.int .u8 (IntKind.u8.wrap (a*2^b.toNat)))):=by
 refine gW rfl ?_;simp only[Dl];rw[if_pos (by omega),alh (by simp only[IntKind.bits];omega)]
@[go_sem ↓] theorem P0 (h:0≤b∧b≤8):aQ P .shr t (.lit (.int .u8 a)) (.lit (.int j b)) F=F true (.lit (.int .u8 (a/2^b.toNat))):=by
 refine gW rfl ?_;simp only[Dl];rw[if_pos (by omega),alh (by simp only[IntKind.bits];omega)]
@[go_sem ↓ high] theorem NK (h: -9223372036854775808≤a+b∧a+b≤9223372036854775807):aQ P .add t (.lit (.int .i64 a)) (.lit (.int .i64 b)) F=F true (.lit (.int .i64 (a+b))):=bz rfl (by simp only[la];rw[wrap_i64 h])
@[go_sem ↓ high] theorem Oe (h: -9223372036854775808≤a-b∧a-b≤9223372036854775807):aQ P .sub t (.lit (.int .i64 a)) (.lit (.int .i64 b)) F=F true (.lit (.int .i64 (a-b))):=bz rfl (by simp only[la];rw[wrap_i64 h])
@[go_sem ↓ high] theorem N3 (h: -9223372036854775808≤a*b∧a*b≤9223372036854775807):aQ P .mul t (.lit (.int .i64 a)) (.lit (.int .i64 b)) F=F true (.lit (.int .i64 (a*b))):=bz rfl (by simp only[la];rw[wrap_i64 h])
@[go_sem ↓ high] theorem Nm (h:0≤a+b∧a+b≤18446744073709551615):aQ P .add t (.lit (.int .u64 a)) (.lit (.int .u64 b)) F=F true (.lit (.int .u64 (a+b))):=bz rfl (by simp only[la];rw[wrap_u64 h])
@[go_sem ↓ high] theorem OQ (h:0≤a-b∧a-b≤18446744073709551615):aQ P .sub t (.lit (.int .u64 a)) (.lit (.int .u64 b)) F=F true (.lit (.int .u64 (a-b))):=bz rfl (by simp only[la];rw[wrap_u64 h])
@[go_sem ↓ high] theorem NL (h:0≤a*b∧a*b≤18446744073709551615):aQ P .mul t (.lit (.int .u64 a)) (.lit (.int .u64 b)) F=F true (.lit (.int .u64 (a*b))):=bz rfl (by simp only[la];rw[wrap_u64 h])
@[go_sem ↓ high] theorem Of (h:0≤a∧a≤9223372036854775807∧0<b):aQ P .quo t (.lit (.int .i64 a)) (.lit (.int .i64 b)) F=F true (.lit (.int .i64 (a/b))):=by
 have:=oy h.1 h.2.2
 exact bz rfl (by simp only[la];rw[if_neg (by omega),Int.tdiv_eq_ediv_of_nonneg h.1,wrap_i64 (by omega)])
@[go_sem ↓ high] theorem OS (h:0≤a∧a≤18446744073709551615∧0<b):aQ P .quo t (.lit (.int .u64 a)) (.lit (.int .u64 b)) F=F true (.lit (.int .u64 (a/b))):=by
 have:=oy h.1 h.2.2
 exact bz rfl (by simp only[la];rw[if_neg (by omega),Int.tdiv_eq_ediv_of_nonneg h.1,wrap_u64 (by omega)])
@[go_sem ↓ high] theorem Mk (h:0≤a∧b≠0):aQ P .rem t (.lit (.int i a)) (.lit (.int i b)) F=F true (.lit (.int i (a%b))):=bz rfl (by simp[la,h.2,al7 h.1])
@[go_sem ↓] theorem ZZ {b:Bool}:xj .not (.lit (.bool b)) F=F true (.lit (.bool !b)):=(rfl)
@[go_sem ↓] theorem XG:xj .neg (.lit (.int i a)) F=F true (.lit (.int i (i.wrap (0-a)))):=(rfl)
@[go_sem ↓] theorem Zd:xj .xor (.lit (.int i a)) F=F true (.lit (.int i (bS .xor i (if i.signed then-1 else i.max) a))):=(rfl)
theorem dt (q:Nat) {m z:Int} (hj:q<i.bits) (hm:m=2^q-1) (hz:z=2^q):aQ P .and t (.lit (.int i a)) (.lit (.int i m)) F=F true (.lit (.int i (a%z))):=bz rfl (by simp only[la];rw[hm,hz,eB hj])
theorem Hp {x y:Bool} (h:isBool P t=true):aQ P .eql t (.lit (.bool x)) (.lit (.bool y)) F=F true (.lit (.bool (x==y))):=by simp[aQ,h,dB,zb,isEq]
theorem K6 {x y:Bool} (h:isBool P t=true):aQ P .neq t (.lit (.bool x)) (.lit (.bool y)) F=F true (.lit (.bool (!(x==y)))):=by simp[aQ,h,dB,zb,isEq]
theorem nH {x:Option Addr} (h:oe P t=true):aQ P .neq t (.lit (.pointer x)) (.lit (.pointer none)) F=F true (.lit (.bool (!x.isNone))):=by simp[aQ,h,dB,ib,isEq]
theorem Ki {o z i off:Nat} (h:oe P t=true):aQ P .eql t (.ref o z i off) (.lit (.pointer none)) F=F true (.lit (.bool false)):=by simp[aQ,h,dB,ib,isEq]
theorem tA {o z i off:Nat} (h:oe P t=true):aQ P .neq t (.ref o z i off) (.lit (.pointer none)) F=F true (.lit (.bool true)):=by simp[aQ,h,dB,ib,isEq]
theorem lV {z i off:Nat} {l:List (List PV)} (h:oe P t=true):aQ P .neq t (.rref z l i off) (.lit (.pointer none)) F=F true (.lit (.bool true)):=by simp[aQ,h,dB,ib,isEq]
theorem jD {z:Nat} {l:List (List PV)} (h:uN P t=true∧0<z):aQ P .eql t (.row z l) (.lit (.slice none 0 0)) F=oJ .eql l.isEmpty F:=by simp[aQ,h]
@[go_sem ↓] theorem Vf:oJ .eql false F=F true (.lit (.bool false)):=(rfl)
theorem jC (h1:F true (.lit (.bool true))) (h2:F true (.lit (.bool false))):oJ .eql true F:=⟨h1,h2⟩
theorem jZ {kd:IntKind} (hs:(kt P s).isSome=true) (ht:kt P t=some kd):nq P s t (.lit (.int i a)) F=F true (.lit (.int kd (kd.wrap a))):=by
 obtain ⟨q,hq⟩:=alS.1 hs;simp[nq,hq,ht]
theorem Me (hs:(kt P s).isSome=true) (ht:kt P t=some .u8) (h:0≤a∧a≤255):nq P s t (.lit (.int i a)) F=F true (.lit (.int .u8 a)):=by rw[jZ hs ht,wrap_u8 h]
theorem IP (hs:(kt P s).isSome=true) (ht:kt P t=some .u32) (h:0≤a∧a≤4294967295):nq P s t (.lit (.int i a)) F=F true (.lit (.int .u32 a)):=by rw[jZ hs ht,wrap_u32 h]
theorem kQ (hs:(kt P s).isSome=true) (ht:kt P t=some .u64) (h:0≤a∧a≤18446744073709551615):nq P s t (.lit (.int i a)) F=F true (.lit (.int .u64 a)):=by rw[jZ hs ht,wrap_u64 h]
theorem xM (hs:(kt P s).isSome=true) (ht:kt P t=some .i64) (h: -9223372036854775808≤a∧a≤9223372036854775807):nq P s t (.lit (.int i a)) F=F true (.lit (.int .i64 a)):=by rw[jZ hs ht,wrap_i64 h]
end
@[go_sem ↓] theorem abM {o z i off:Nat}:Ph (.ref o z i off) F=F true (.ref o z i off):=(rfl)
@[go_sem ↓] theorem Z1 {z:Nat} {l:List (List PV)} {i off:Nat}:Ph (.rref z l i off) F=F true (.rref z l i off):=(rfl)
@[go_sem ↓] theorem XU {l:List V} {j:Nat}:EN (.tup l) j F=mq l j fun x=>F true x:=(rfl)
section
variable {α β:Type} {v:α} {l c:List α} {i m:Nat} {G:α→Prop} {H:List α→Prop} {f:β→α} {L:List β}
@[go_sem ↓] theorem Xs:mq (v::l) 0 G=G v:=(rfl)
@[go_sem ↓] theorem YP:mq (v::l) (i+1) G=mq l i G:=by simp[mq]
theorem SA {x:α} (h:l[i]? =some x):mq l i G=G x:=by simp[mq,h]
@[go_sem ↓] theorem CF [Inhabited β] (h:i<L.length):mq (L.map f) i G=G (f (L.getD i default)):=by
 rw[SA (x:=f (L.getD i default))];rw[akX,akh h,akf,akh h]
 rfl
@[go_sem ↓] theorem WX:wW l 0 0 H=H []:=by simp[wW]
@[go_sem ↓] theorem Zo:wW (v::l) 0 (m+1) H=wW l 0 m fun r=>H (v::r):=by simp[wW]
@[go_sem ↓] theorem aal:wW (v::l) (i+1) m H=wW l i m H:=by
 unfold wW;rw[akm,List.drop_succ_cons]
 by_cases h:i+m≤l.length
 · rw[if_pos h,if_pos (by omega)]
 · rw[if_neg h,if_neg (by omega)]
theorem NY (h:l.length=m):wW l 0 m H=H l:=by simp[wW,←h]
@[go_sem ↓] theorem Xc:dm l 0 [] H=H l:=by
 simp[dm]
@[go_sem ↓] theorem Y8 {x:α}:dm (v::l) 0 (x::c) H=dm l 0 c fun r=>H (x::r):=by
 simp[dm,alX]
@[go_sem ↓] theorem Zw:dm (v::l) (i+1) c H=dm l i c fun r=>H (v::r):=by
 unfold dm
 by_cases h:i+c.length≤l.length
 · rw[if_pos h,if_pos (by simp;omega)]
   simp[Nat.add_right_comm]
 · rw[if_neg h,if_neg (by simp;omega)]
theorem wK {x:α} (h:i<l.length):dm l i [x] H=H (l.set i x):=by
 unfold dm;rw[if_pos (by simp;omega)]
 congr 1
 rw[List.set_eq_take_append_cons_drop,if_pos h]
 simp
@[go_sem ↓] theorem abC {x:α} (h:i<L.length):dm (L.map f) i [x] H=H ((L.map f).set i x):=wK (by simpa using h)
@[go_sem ↓] theorem Wz {p:Prop}:aM ([]:List α) 0 p=p:=by simp[aM]
@[go_sem ↓] theorem U6 {p:Prop}:aM (v::l) (m+1) p=aM l m p:=by simp[aM]
theorem Nl {p:Prop} (h:l.length=m):aM l m p=p:=by simp[aM,h]
end
section
variable {p:Prop} {C:List Value}
@[go_sem ↓] theorem RH:aD [] p=p:=by simp[aD]
@[go_sem ↓] theorem RZ {i:IntKind} {a:Int}:aD (.int i a::C) p=aD C p:=by simp[aD,bD]
@[go_sem ↓] theorem Pu {b:Bool}:aD (.bool b::C) p=aD C p:=by simp[aD,bD]
@[go_sem ↓] theorem NN {a:Option Addr} {l c:Nat}:aD (.slice a l c::C) p=aD C p:=by simp[aD,bD]
@[go_sem ↓] theorem KW {a:Option Addr}:aD (.pointer a::C) p=aD C p:=by simp[aD,bD]
@[go_sem ↓] theorem GH:aD (.nilIface::C) p=aD C p:=by simp[aD,bD]
@[go_sem ↓] theorem Su {m:Nat} {v:Value}:aD (List.replicate m v) p=if m=0∨bD v=true then p else False:=by
 unfold aD
 cases m with
 | zero=>simp
 | succ m=>simp[alE];exact fun _ h=>.inr h
end
@[go_sem ↓] theorem Xb {ob:Ob} {G:Ob→Prop}:oI (some ob::σ) 0 G=G ob:=(rfl)
@[go_sem ↓] theorem ZN {x:Option Ob} {o:Nat} {G:Ob→Prop}:oI (x::σ) (o+1) G=oI σ o G:=by simp[oI,mq]
@[go_sem ↓] theorem ai6 {z off:Nat}:vj z 0 off=off:=by simp[vj]
@[go_sem ↓] theorem abQ {i:Nat}:vj 1 i 0=i:=by simp[vj]
@[go_sem ↓] theorem aff {z i off:Nat}:vj (z+2) i off=i*(z+2)+off:=(rfl)
section
variable {G:List V→Prop} {H:PV→Prop} {J:List PV→Prop} {v:Value} {z:Nat} {l:List (List PV)} {o i off len f:Nat} {us:List V} {u:V}
@[go_sem ↓] theorem aec:bZ (.agg us) G=G us:=(rfl)
@[go_sem ↓] theorem aen:bZ (.lit v) G=G [.lit v]:=(rfl)
@[go_sem ↓] theorem ab1:bZ (.row z l) G=G [.row z l]:=(rfl)
@[go_sem ↓] theorem ade:bZ (.ref o z i off) G=G [.ref o z i off]:=(rfl)
@[go_sem ↓] theorem agR:bZ (.sl o z off len) G=G [.sl o z off len]:=(rfl)
@[go_sem ↓] theorem XW:bZ (.rref z l i off) G=G [.rref z l i off]:=(rfl)
@[go_sem ↓] theorem acy:MB (.lit v) H=H (.lit v):=(rfl)
@[go_sem ↓] theorem ZT:MB (.rref z l i off) H=H (.ptr z l i off):=(rfl)
@[go_sem ↓] theorem XT:nP [] J=J []:=(rfl)
@[go_sem ↓] theorem TZ:nP (u::us) J=MB u fun p=>nP us fun ps=>J (p::ps):=(rfl)
@[go_sem ↓] theorem aeK:V.ofP (.lit v)=.lit v:=(rfl)
@[go_sem ↓] theorem acp:V.ofP (.row z l)=.row z l:=(rfl)
variable {q:Option Nat} {el:List PV} {cs:List V} {KK:Ob→Prop} {ks:KS} {z':Nat}
@[go_sem ↓] theorem aeI:gl (.ref o z i off) σ q F=oI σ o fun ob=>QG ob z i off q F:=(rfl)
@[go_sem ↓] theorem Xr:gl (.rref z l i off) σ q F=mq l i fun e=>HM e off q F:=(rfl)
@[go_sem ↓] theorem XZ:QG (.cells us) z i off none F=mq us (vj z i off) fun u=>F true u:=(rfl)
@[go_sem ↓] theorem Wl {m:Nat}:QG (.cells us) z i off (some m) F=wW us (vj z i off) m fun r=>F true (.agg r):=(rfl)
@[go_sem ↓] theorem adt:QG (.row z l) z i off q F=mq l i fun e=>HM e off q F:=by simp[QG]
@[go_sem ↓] theorem Xu:HM el off none F=mq el off fun p=>F true (V.ofP p):=(rfl)
@[go_sem ↓] theorem ZD {m:Nat}:HM el off (some m) F=wW el off m fun r=>F true (.agg (r.map V.ofP)):=(rfl)
@[go_sem ↓] theorem aeD:iS (.ref o z i off) σ cs ks=oI σ o fun ob=>Pg ob z i off cs fun ob'=>ks true (σ.set o (some ob')):=(rfl)
@[go_sem ↓] theorem Tg:Pg (.cells us) z i off cs KK=dm us (vj z i off) cs fun l'=>KK (.cells l'):=(rfl)
@[go_sem ↓] theorem Nj:Pg (.row z l) z i off cs KK=mq l i fun e=>nP cs fun ps=>dm e off ps fun e'=>KK (.row z (l.set i e')):=by simp[Pg]
@[go_sem ↓] theorem abe {ob:Ob} {G:Nat→St→Prop}:bK σ ob G=G σ.length (σ++[some ob]):=(rfl)
@[go_sem ↓] theorem ab3:MX u σ kv=bZ u fun l=>bK σ (.cells l) fun o σ'=>kv true (.ref o 0 0 0) σ':=(rfl)
@[go_sem ↓] theorem T9 {d m:Nat} {G:Nat→Prop}:ec none d m G=G d:=(rfl)
@[go_sem ↓] theorem RI {d m:Nat} {G:Nat→Prop}:ec (some u) d m G=GR u m G:=(rfl)
@[go_sem ↓] theorem acL {kd:IntKind} {a:Int} {m:Nat} {G:Nat→Prop} (h:0≤a∧a≤m):GR (.lit (.int kd a)) m G=G a.toNat:=by simp[GR,h]
@[go_sem ↓ high] theorem adV {kd:IntKind} {a:Nat} {m:Nat} {G:Nat→Prop} (h:a≤m):GR (.lit (.int kd (a:Int))) m G=G a:=by simp[GR,h]
variable {R':List (List PV)→Prop} {β:Type} {L:List β} {f:β→List PV}
@[go_sem ↓] theorem YS:iG (.row z l) σ z R'=R' l:=by simp[iG]
@[go_sem ↓] theorem adp:iG (.sl o z off len) σ z R'=oI σ o fun ob=>tJ ob z off len R':=by simp[iG]
@[go_sem ↓ high] theorem aab (h:off+len≤L.length):tJ (.row z (L.map f)) z off len R'=R' (((L.drop off).take len).map f):=by simp[tJ,h,amn,List.map_drop]
@[go_sem ↓ high] theorem agK {e1:List PV}:tJ (.row z [e1]) z 0 1 R'=R' [e1]:=by simp[tJ]
@[go_sem ↓ high] theorem afn {e1 e2 e3:List PV}:tJ (.row z [e1,e2,e3]) z 0 3 R'=R' [e1,e2,e3]:=by simp[tJ]
@[go_sem ↓] theorem X7:fL (.row z l) F=F true (.lit (.int .i64 l.length)):=(rfl)
@[go_sem ↓ high] theorem Ve:fL (.row z (L.map f)) F=F true (.lit (.int .i64 L.length)):=by simp[fL]
@[go_sem ↓] theorem adE:fL (.sl o z off len) F=F true (.lit (.int .i64 len)):=(rfl)
variable {yb:Nat} {m:List (List PV)} {M:List β}
@[go_sem ↓] theorem ad9:oD false z yb (.sl o z 0 len) m σ kv=oI σ o fun ob=>tT ob z yb len o m σ kv:=by simp[oD]
@[go_sem ↓] theorem acX (h:l.length=len∧(len+m.length)*2*yb≤281474976710656):tT (.row z l) z yb len o m σ kv=bK (σ.set o none) (.row z (l++m)) fun o' σ'=>kv true (.sl o' z 0 (len+m.length)) σ':=by simp[tT,h]
@[go_sem ↓ high] theorem HR (h:L.length=len∧(len+M.length)*2*yb≤281474976710656):tT (.row z (L.map f)) z yb len o (M.map f) σ kv=bK (σ.set o none) (.row z ((L++M).map f)) fun o' σ'=>kv true (.sl o' z 0 (len+M.length)) σ':=by simp[tT,h]
@[go_sem ↓ high] theorem TJ (h:M.length*2*yb≤281474976710656):tT (.row z []) z yb 0 o (M.map f) σ kv=bK (σ.set o none) (.row z (M.map f)) fun o' σ'=>kv true (.sl o' z 0 M.length) σ':=by simp[tT,h]
@[go_sem ↓ high] theorem aac (h:M.length≤len):Ed z (.sl o z off len) (M.map f) σ kv=oI σ o fun ob=>JN ob z o off len (M.map f) σ kv:=by simp[Ed,h]
@[go_sem ↓ high] theorem aa2 (h:off+len≤L.length):JN (.row z (L.map f)) z o off len (M.map f) σ kv=kv true (.lit (.int .i64 M.length)) (σ.set o (some (.row z ((L.take off++M++L.drop (off+M.length)).map f)))):=by simp[JN,h,amn,List.map_drop]
@[go_sem ↓] theorem qn {C:List Value} {a b:Int} (h:0≤a∧a=b∧a*yb≤140737488355328∧a<4611686018427387904∧0<yb) (hC:C.length=z):ki z yb C (.lit (.int .i64 a)) (.lit (.int .i64 b)) σ kv=aD C (bK σ (.row z (dV C a.toNat)) fun o σ'=>kv true (.sl o z 0 a.toNat) σ'):=by
 unfold ki;simp only;rw[if_pos ⟨h.1,h.2.1,h.2.2.1,h.2.2.2.1,h.2.2.2.2,hC⟩]
def ie (kd:IntKind) (x:Int):List PV:=[.lit (.int kd x)]
section
variable {s t:TypeId}
end
def be (b:Bool):List PV:=[.lit (.bool b)]
@[go_sem] theorem aiP {kd:IntKind} {x:Int}:ie kd x=[.lit (.int kd x)]:=(rfl)
@[go_sem ↓ high] theorem Jg {kd:IntKind} {A:List Int} {G:List PV→Prop} (h:i<A.length):mq (A.map (ie kd)) i G=G [.lit (.int kd (A.getD i 0))]:=CF h
@[go_sem ↓ high] theorem XE {A:List Bool} {G:List PV→Prop} (h:i<A.length):mq (A.map be) i G=G [.lit (.bool (A.getD i false))]:=CF h
theorem RU {kd:IntKind} {A:List Int} {x:Int}:(A.map (ie kd)).set i [PV.lit (.int kd x)]=(A.set i x).map (ie kd):=by rw[amD];rfl
@[go_sem ↓] theorem WN {kd:IntKind} {x:Int} {m:Nat}:dV [.int kd x] m=(List.replicate m x).map (ie kd):=by simp[dV,ie]
@[go_sem ↓ high] theorem Yu {kd:IntKind} {A:List Int} {x:Int} (h:i<A.length):Pg (.row 1 (A.map (ie kd))) 1 i 0 [.lit (.int kd x)] KK=KK (.row 1 ((A.set i x).map (ie kd))):=by
 rw[Nj,Jg h];simp only[nP,MB];rw[wK (by simp)];simp only[amt];rw[RU]
@[go_sem ↓ high] theorem afp {kd:IntKind} {A:List Int} {x:Int} (h:A.length=len∧(len+1)*2*yb≤281474976710656):tT (.row 1 (A.map (ie kd))) 1 yb len o [[PV.lit (.int kd x)]] σ kv=bK (σ.set o none) (.row 1 ((A++[x]).map (ie kd))) fun o' σ'=>kv true (.sl o' 1 0 (len+1)) σ':=HR (M:=[x]) h
end
section
variable {q:Option Nat} {u v:V} {ks:KS} {o z i off len j m y:Nat} {l:List (List PV)} {us:List V} {ag:Bool} {kd:IntKind} {a:Int} {et ex:TypeId} {β:Type} {L:List β} {f:β→List PV}
theorem aV (h:yC P t=some q):fr P t u σ F=gl u σ q F:=by simp[fr,h]
theorem bh (h:cU P t=some (m+1)):fM P t u v σ ks=bZ v fun c=>aM c (m+1) (iS u σ c ks):=by simp[fM,h]
theorem aq {x:Nat} (h:Fe P t j=some (x,ag,m)):aN P t (.ref o z i off) j F=F true (.ref o z i (off+x)):=by simp[aN,h]
theorem bE {x:Nat} (h:Fe P t j=some (x,ag,m)):aN P t (.rref z l i off) j F=F true (.rref z l i (off+x)):=by simp[aN,h]
theorem vV (h:fC P t=some (et,z)) (hm:0≤a∧a<len):cW P t (.sl o z off len) (.lit (.int kd a)) F=F true (.ref o z (off+a.toNat) 0):=by simp[cW,h,yN,hm]
theorem kC (h:fC P t=some (et,z)) (hm:m<len):cW P t (.sl o z off len) (.lit (.int kd (m:Int))) F=F true (.ref o z (off+m) 0):=by simp[cW,h,yN,hm]
theorem yD (h:fC P t=some (et,z)) (hz:0<z) (hm:0≤a∧a<l.length):cW P t (.row z l) (.lit (.int kd a)) F=F true (.rref z l a.toNat 0):=by simp[cW,h,yN,hm,hz]
theorem dM (h:fC P t=some (et,z)) (hz:0<z) (hm:m<l.length):cW P t (.row z l) (.lit (.int kd (m:Int))) F=F true (.rref z l m 0):=by simp[cW,h,yN,hm,hz]
theorem lL (h:fC P t=some (et,z)) (hz:0<z) (hm:0≤a∧a<L.length):cW P t (.row z (L.map f)) (.lit (.int kd a)) F=F true (.rref z (L.map f) a.toNat 0):=by simp[cW,h,yN,hm,hz]
theorem Mt (h:vK P t=some (len,et,z)) (hm:0≤a∧a<len):cW P t (.ref o 0 0 off) (.lit (.int kd a)) F=F true (.ref o z a.toNat off):=by simp[cW,h,yN,hm]
theorem Kn (h:vK P t=some (len,et,z)) (hm:m<len):cW P t (.ref o 0 0 off) (.lit (.int kd (m:Int))) F=F true (.ref o z m off):=by simp[cW,h,yN,hm]
theorem GY {s:ByteArray} (h:isStr P t=true) (hm:0≤a∧a<s.size):qb P t (.lit (.string s)) (.lit (.int kd a)) F=F true (.lit (.int .u8 (rp s a.toNat))):=by simp[qb,h,yN,hm]
theorem QR (h:vK P t=some (len,et,1)) (hg:yC P et=some none) (hl:us.length=len) (hm:m<len):qb P t (.agg us) (.lit (.int kd (m:Int))) F=mq us m fun x=>F true x:=by simp[qb,h,hg,yN,hl,hm]
variable {lo hi mx:Option V}
@[go_sem ↓] theorem aa6 {lo hi mx:Option V}:Bf P t (.sl o z off len) lo hi mx σ F=mF P t (.sl o z off len) lo hi mx F:=by cases mx<;>rfl
@[go_sem ↓] theorem WG {lo hi mx:Option V} {ll:List (List PV)}:Bf P t (.row z ll) lo hi mx σ F=mF P t (.row z ll) lo hi mx F:=by cases mx<;>rfl
theorem LU (h:fC P t=some (et,z)):mF P t (.sl o z off len) lo hi none F=ec hi len len fun h=>ec lo 0 h fun l=>F true (.sl o z (off+l) (h-l)):=by simp[mF,Kg,h]
theorem oT (h:fC P t=some (et,z)):mF P t (.row z (L.map f)) lo hi none F=ec hi L.length L.length fun h=>ec lo 0 h fun x=>F true (.row z (((L.take h).drop x).map f)):=by simp[mF,Kg,h,amn,List.map_drop]
theorem ed (h:(fC P t).isSome=true):eL P e .len [t] [.row y l] σ kv=fL (.row y l) fun τ v=>kv τ v σ:=by
 obtain ⟨ez,h⟩:=alS.1 h;simp[eL,yI,h]
theorem lF (h:(fC P t).isSome=true):eL P e .len [t] [.sl o y off len] σ kv=fL (.sl o y off len) fun τ v=>kv τ v σ:=by
 obtain ⟨ez,h⟩:=alS.1 h;simp[eL,yI,h]
theorem eQ (h:(kt P s).isSome=true):gC P s t u σ F=nq P s t u F:=by
 unfold gC;rw[if_neg];rintro ⟨h1,_⟩;unfold kt at h;unfold zn at h1
 cases hq:P.underlying s with
 | none=>rw[hq] at h1;cases h1
 | some d=>rw[hq] at h h1;cases d<;>first | (simp at h;done) | (simp at h1;done)
theorem gz {bo:BinOp} {fk:List Bool} {vs:List V} (h:NI P t=some fk):aQ P bo t (.agg us) (.agg vs) F=kB fk us vs fun r=>dB (zI bo r) F:=by simp[aQ,h]
@[go_sem ↓] theorem Xg {r:Bool}:dB (zI .eql r) F=F true (.lit (.bool r)):=by cases r<;>rfl
@[go_sem ↓] theorem ZC {r:Bool}:dB (zI .neq r) F=F true (.lit (.bool !r)):=by cases r<;>rfl
@[go_sem ↓] theorem aeC {G:Bool→Prop}:kB [] [] [] G=G true:=(rfl)
@[go_sem ↓] theorem adJ {fk:List Bool} {us vs:List V} {x y:Int} {G:Bool→Prop}:kB (true::fk) (.lit (.int kd x)::us) (.lit (.int kd y)::vs) G=kB fk us vs fun r=>G (decide (x=y)&&r):=by simp[kB]
@[go_sem ↓] theorem Y4 {fk:List Bool} {us vs:List V} {x y:Bool} {G:Bool→Prop}:kB (false::fk) (.lit (.bool x)::us) (.lit (.bool y)::vs) G=kB fk us vs fun r=>G ((x==y)&&r):=by simp[kB]
theorem RX {s:List UInt8}:ByteArray.mk s.toArray=bs s:=(rfl)
attribute [go_sem] RX Bool.and_true Bool.true_and Bool.and_false Bool.false_and Bool.not_true Bool.not_false
theorem gT {C:List Value} (h:fC P t=some (et,z)) (hx:fC P s=some (ex,z)) (hC:gM P et=some C) (hy:t9 P et=some y) (h0:0<y) (hz:C.length=z):mW P e t s u v σ kv=iG v σ z fun m=>oD e z y u m σ kv:=by simp[mW,h,hx,hC,hy,h0,hz]
theorem Nc (h:fC P t=some (et,z)) (hx:fC P s=some (ex,z)):AQ P t s u v σ kv=iG v σ z fun m=>Ed z u m σ kv:=by simp[AQ,h,hx]
theorem nO {C:List Value} (h:fC P t=some (et,z)) (hC:gM P et=some C) (hy:t9 P et=some y):pq P t u v σ kv=ki z y C u v σ kv:=by simp[pq,h,hC,hy]
theorem bL {C:List Value} (h:gM P t=some C):dP P t σ kv=aD C (bK σ (.cells (C.map V.lit)) fun o σ'=>kv true (.ref o 0 0 0) σ'):=by simp[dP,h]
theorem bC {C:List Value} {ps:List (Nat×V)} (h:gM P t=some C) (hg:Sl P t=true) (hs:szs P t=true):dO P t ps F=aD C (az (aH P t) ps (C.map V.lit) fun l=>F true (.agg l)):=by simp[dO,h,hg,hs]
theorem au {pl:Nat→Option (Nat×Nat)} {r:List (Nat×V)} {us:List V} {G:List V→Prop} {x:Nat} (h:pl j=some (x,m)):az pl ((j,u)::r) us G=bZ u fun c=>aM c m (dm us x c fun l'=>az pl r l' G):=by simp[az,h]
@[go_sem ↓] theorem We {pl:Nat→Option (Nat×Nat)} {us:List V} {G:List V→Prop}:az pl [] us G=G us:=(rfl)
theorem dp {ps:List (Nat×V)} (h:fC P t=some (et,z)) (hz:(gM P et).isSome=true∧0<z∧n*z≤16777216):gV P t n ps σ kv=fD z 0 ps fun l=>aM l n (bK σ (.row z l) fun o σ'=>kv true (.sl o z 0 n) σ'):=by simp[gV,h,hz.1,hz.2.1,hz.2.2]
@[go_sem ↓] theorem Zj {G:List (List PV)→Prop}:fD z j [] G=G []:=(rfl)
@[go_sem ↓] theorem Up {r:List (Nat×V)} {G:List (List PV)→Prop}:fD z j ((j,u)::r) G=bZ u fun c=>aM c z (nP c fun e=>fD z (j+1) r fun es=>G (e::es)):=by simp[fD]
end
@[go_sem] theorem ac8 {o:Nat}:nj [] o=true:=(rfl)
@[go_sem] theorem Xf {p o:Nat} {π:Pi}:nj (some p::π) o=if p=o then false else nj π o:=by
 unfold nj
 by_cases h:p=o
 · subst h;simp
 · rw[if_neg h]
   have:¬(some o=some p):=fun e=>h (Option.some.inj e).symm
   simp[this]
@[go_sem] theorem Xz {p o:Nat} {F:List Nat}:List.contains (p::F) o=if p=o then true else List.contains F o:=by
 by_cases h:p=o
 · subst h;simp
 · rw[if_neg h]
   have:¬o=p:=fun e=>h e.symm
   simp[this]
section
variable {ok:Nat→Bool} {u:V} {m o z z' i i' off off' len z'':Nat} {l l' L:List (List PV)} {us:List V} {ps:List PV} {p:PV} {f:V→PV→Prop} {v v':Value}
@[go_sem ↓] theorem adF:GP ok σ (m+1) (.ref o z' i' off') (.ptr z l i off)=(ok o=true∧oI σ o fun ob=>tO (GP ok σ m) z l i off z' i' off' ob):=(rfl)
@[go_sem ↓] theorem af9:GP ok σ (m+1) (.sl o z off len) (.row z' l)=(z'=z∧ok o=true∧oI σ o fun ob=>tR (GP ok σ m) z off len l ob):=(rfl)
@[go_sem ↓] theorem adC:GP ok σ m (.lit v) (.lit v')=(v'=v):=by cases m<;>rfl
@[go_sem ↓] theorem abP:GP ok σ m (.row z l) (.row z' l')=(z'=z∧l'=l):=by cases m<;>rfl
@[go_sem ↓] theorem adR:GU f [] []=True:=(rfl)
@[go_sem ↓] theorem XC:GU f (u::us) (p::ps)=(f u p∧GU f us ps):=(rfl)
@[go_sem ↓] theorem Tv:tO f z [ps] i off z' i' off' (.cells us)=(z=ps.length∧i=0∧off=vj z' i' off'∧GU f us ps):=(rfl)
@[go_sem ↓] theorem aeL:Px f z us []=True:=by unfold Px;rfl
@[go_sem ↓] theorem WU:Px f z us (ps::l)=(z≤us.length∧GU f (us.take z) ps∧Px f z (us.drop z) l):=(rfl)
@[go_sem ↓] theorem agw:tR f z off len l (.row z'' L)=vZ (.row z'' L) z off len l:=(rfl)
@[go_sem ↓] theorem aah:tR f z off len l (.cells us)=(off=0∧l.length=len∧Px f z us l):=(rfl)
end
attribute [go_sem] V.ofP mV tH mO nZ mG vZ l9 ta G3 yO w7 tY zJ kill sK je ku tW
end
def xx {X:Type} (k:Nat) (st:X→Vg×St) (inv:X→Prop) (m:X→Nat) (x:X) (ρ:Vg) (σ:St):Prop:=∃x' π,LS k π (st x').1 (st x').2 ρ σ∧inv x'∧m x'<m x
theorem aI {X:Type} {k:Nat} {st:X→Vg×St} {inv:X→Prop} {m:X→Nat} {x:X} {ρ:Vg} {σ:St} (x':X) (π:Pi) (h1:(Fc π (st x').2&&t7 k π)=true) (h2:nZ (nj π) π σ (st x').2 π) (h3:mG (nj π) π σ (st x').1 ρ) (hi:inv x') (hm:m x'<m x):xx k st inv m x ρ σ:=⟨x',π,⟨h1,h2,h3⟩,hi,hm⟩
theorem aW {X:Type} {k:Nat} {body:Vg→St→gG→Prop} {ρ:Vg} {σ:St} {Q:gG} (st:X→Vg×St) (inv:X→Prop) (m:X→Nat) (x₀:X) (π:Pi) (h1:(Fc π (st x₀).2&&t7 k π)=true) (h2:nZ (nj π) π σ (st x₀).2 π) (h3:mG (nj π) π σ (st x₀).1 ρ) (hi:inv x₀)
 (round:∀x,inv x→body (st x).1 (st x).2 (mf (fun _=>xx k st inv m x) Q)):yr k body ρ σ Q:=by
 refine⟨fun c ρ σ=>∃x,c=m x∧(ρ,σ)=st x∧inv x,⟨_,π,(st x₀).1,(st x₀).2,⟨h1,h2,h3⟩,x₀,rfl,rfl,hi⟩,?_⟩;rintro c ρ σ ⟨x,rfl,e,hx⟩;have e1:(st x).1=ρ:=by rw[←e]
 have e2:(st x).2=σ:=by rw[←e]
 have:=round x hx
 rw[e1,e2] at this
 have e:(mf (fun _=>xx k st inv m x) Q)=mf (fun _ ρ' σ'=>∃m' π ρ₀ σ₀,m'<m x∧LS k π ρ₀ σ₀ ρ' σ'∧∃y,m'=m y∧(ρ₀,σ₀)=st y∧inv y) Q:=by
  funext τ e ρ σ
  cases e with
  | normal=>
    refine propext ⟨?_,?_⟩
    · rintro ⟨x',π,h1,h2,h3⟩;exact⟨_,π,_,_,h3,h1,x',rfl,rfl,h2⟩
    · rintro ⟨_,π,ρ₀,σ₀,h3,h1,x',rfl,e,h2⟩
      refine⟨x',π,?_,h2,h3⟩;rw[←e];exact h1
  | _=>rfl
 rw[←e];exact this
theorem lX {k:Nat} {Q:V→St→Prop} {u:V} {s:St} (π:Pi) (u₀:V) (s₀:St) (h1:(Fc π s₀&&t7 k π)=true) (h2:nZ (nj π) π s s₀ π) (h3:mV (nj π) π s u₀ u) (hq:Q u₀ s₀):tP k Q u s:=⟨π,u₀,s₀,⟨h1,h2,h3⟩,hq⟩
section
variable {P:Program}
theorem Q4 {f:FuncId} {fn:Func} {c:Code} {vs:List V} {σ:St} {r:V} {s:St} (pl:aK) (hm:P.follows .mixedOrders=true) (hcf:∀(args:Array Value) (w:World),(callFunc f args).run P w=.ok (.enter f args) w)
 (hf:P.funcs[f]? =some fn) (hb:fn.body=some c) (hc:chk fn.ntmps pl c=true) (hs:Nat.ble vs.length fn.ntmps=true) (rs:List ResultVar) (hr:fn.results.toList=rs)
 (h:∀Q:V→St→Prop,Q r s→ek true P σ.length pl c (Gg 0 vs) σ (qV P rs (tP σ.length Q))):aA P f vs σ r s:=
 OV pl hm hcf hf hb hc hs rs hr (h _ ⟨rfl,rfl⟩)
theorem Hq {e:Bool} {f:FuncId} {vs vs₀:List V} {σ σ₀ s:St} {r:V} {K:KV} (π:Pi) (F:List Nat) (spec:aA P f vs₀ σ₀ r s)
 (h1:(Tp π&&π.all (fun p=>match p with | some p=>decide (p<σ.length)&&!F.contains p | none=>true))=true) (h2:nZ F.contains π σ σ₀ π) (h3:tH F.contains π σ vs₀ vs) (he:e=true→σ₀=[])
 (hk:K true (l9 (w7 (je σ.length π) (σ.length+ku π)) r) (sK π F σ s)):dT P e f vs σ K:=
 xf π F spec ⟨h1,h2,h3⟩ he fun u s ⟨h4,h5⟩=>by rw[h4,h5];exact hk
def lB:V→Bool
 | .lit _=>true
 | .row _ _=>true
 | .xrow _ _=>true
 | .rref _ _ _ _=>true
 | .agg l=>plnL l
 | .tup l=>plnL l
 | .clo _ l=>plnL l
 | _=>false
where plnL:List V→Bool
 | []=>true
 | v::vs=>lB v&&plnL vs
mutual
theorem RY {ok:Nat→Bool} {π:Pi} {σ:St}:∀{v:V},lB v=true→mV ok π σ v v
 | .lit _,_=>by simp[mV]
 | .row _ _,_=>by simp[mV]
 | .xrow _ _,_=>by simp[mV]
 | .rref _ _ _ _,_=>by simp[mV]
 | .agg l,h=>by simp only[mV];exact lD h
 | .tup l,h=>by simp only[mV];exact lD h
 | .clo f l,h=>by simp only[mV];exact⟨trivial,lD h⟩
 | .ref _ _ _ _,h=>by simp[lB] at h
 | .sl _ _ _ _,h=>by simp[lB] at h
theorem lD {ok:Nat→Bool} {π:Pi} {σ:St}:∀{vs:List V},lB.plnL vs=true→tH ok π σ vs vs
 | [],_=>by simp[tH]
 | v::vs,h=>by
   simp only[lB.plnL,akn] at h;simp only[tH];exact⟨RY h.1,lD h.2⟩
end
mutual
theorem zj {f:Nat→Nat}:∀{v:V},lB v=true→l9 f v=v
 | .lit _,_=>rfl
 | .row _ _,_=>rfl
 | .xrow _ _,_=>rfl
 | .rref _ _ _ _,_=>rfl
 | .agg l,h=>by simp only[l9];rw[oE h]
 | .tup l,h=>by simp only[l9];rw[oE h]
 | .clo f l,h=>by simp only[l9];rw[oE h]
 | .ref _ _ _ _,h=>by simp[lB] at h
 | .sl _ _ _ _,h=>by simp[lB] at h
theorem oE {f:Nat→Nat}:∀{vs:List V},lB.plnL vs=true→ta f vs=vs
 | [],_=>rfl
 | v::vs,h=>by
   simp only[lB.plnL,akn] at h;simp only[ta,zj h.1,oE h.2]
end
theorem aC {e:Bool} {f:FuncId} {vs:List V} {σ:St} {r:V} {K:KV} (spec:aA P f vs [] r []) (hv:lB.plnL vs=true) (hr:lB r=true) (hk:K true r σ):dT P e f vs σ K:=by
 refine Hq (σ₀:=[]) [] [] spec rfl (by simp[nZ]) (lD hv) (fun _=>rfl) ?_;rw[zj hr];simpa [sK,tW,ku,je,kill,zJ,tY] using hk
end
end Go.Vx
