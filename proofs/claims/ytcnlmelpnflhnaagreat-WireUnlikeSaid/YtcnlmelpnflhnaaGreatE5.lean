import Derived.Test.YtcnlmelpnflhnaaGreatE4
namespace Go.Vx
open Go.Eng
set_option linter.unusedSimpArgs false
set_option linter.unusedVariables false
def bT (L:List (Nat×Option Nat)):List Nat:=L.flatMap fun x=>x.1::x.2.toList
def pc (sl:Array Bool) (l:List Nat):Array Bool:=l.foldl (fun a i=>a.setIfInBounds i true) sl
def uk (ops:Array Oper) (i l:Nat):Bool:=match ops[i]?,ops[l]? with
 | some x,some y=>x.apart ops y
 | _,_=>false
def B8 (md:Region.Mode) (ops:Array Oper) (sl:Array Bool) (i:Nat):Bool:=match ops[i]? with
 | none=>false
 | some oi=>oi.guard.isNone&&(match oi.op with | .move _ | .assign _ | .pick .. | .binOp .. | .unOp .. | .convert .. | .slice .. | .fieldAddr .. | .field .. | .indexAddr .. | .index .. | .extract .. | .nilCheck .. | .build .. | .call {callee:=.builtin .min,.. } | .call {callee:=.builtin .max,.. }=>true | _=>false)&&(List.range ops.size).all fun j=>j==i || sl.getD j true || match ops[j]? with
  | some oj=>oj.after.any (fun e=>Region.binds md e&&e.on==i) || oi.apart ops oj
  | none=>true
def mkG (ops:Array Oper) (i:Nat):Bool:=match ops[i]? with
 | some o=>Z6 o&&o.guard.isNone&&(match o.dst with | some d=> !(o.looksAt ops).contains d | none=>false)
 | none=>false
def prG (md:Region.Mode) (ops:Array Oper) (s p:Nat):Bool:=match ops[s]?,ops[p]? with
 | some os,some op=>(match os.op,op.op,op.dst with
   | .store _ (.tmp d) x,.alloc _,some e=>d==e&&(match x with | .tmp y=>y !=d | _=>true)
   | _,_,_=>false)&&os.guard.isNone&&os.dst.isNone&&os.after.any (fun e=>Region.binds md e&&e.on==p)
 | _,_=>false
def lsG (ops:Array Oper) (i p:Nat):Bool:=match ops[i]?,ops[p]? with
 | some o,some q=>(match o.op,q.op with | .load _ _,.store _ _ _=>true | _,_=>false)&&o.guard.isNone&&q.guard.isNone&&q.dst.isNone
 | _,_=>false
def ngG (ops:Array Oper) (i:Nat):Bool:=match ops[i]? with | some o=>o.guard.isNone | none=>false
def Ng (rm j q:Nat):Bool:=rm/2^j%2==1&&(q&&&rm)==0
def yR (md:Region.Mode) (ops:Array Oper) (wr:Nat→Bool) (S:List (Nat×Nat×Nat)) (goal:Array Bool):Nat→Array Bool→Nat→Bool
 | 0,sl,_=>sl==goal
 | n+1,sl,rm=> !(Region.ready md ops sl).isEmpty&&(Region.ready md ops sl).all fun j=>ngG ops j&&(S.any fun x=>x.1==j&&Ng rm j x.2.2&&(x.2.1==11 || (x.2.1==12&&wr j)))&&yR md ops wr S goal n (sl.setIfInBounds j true) (rm-2^j)
def bS (md:Region.Mode) (ops:Array Oper) (wr:Nat→Bool):Array Bool→List (Nat×Option Nat)→List (Nat×Nat×Nat)→Bool
 | sl,L,[]=>L.isEmpty&&(Region.ready md ops sl).isEmpty
 | sl,L,(i,t,p)::r=>match t with
   | 0=>(Region.ready md ops sl).contains i&&!(bT L).contains i&&uO md ops wr sl i&&(bT L).all (uk ops i)&&bS md ops wr (sl.setIfInBounds i true) L r
   | 1=>(Region.ready md ops sl).contains i&&(Region.ready md ops (pc sl (bT L))==[i])&&(bT L).all (uk ops i)&&bS md ops wr (sl.setIfInBounds i true) L r
   | 2=>(Region.ready md ops sl).contains i&&(Region.ready md ops (pc sl (bT L))==[i])&&(bT L).all (uk ops i)&&wr i&&bS md ops wr (sl.setIfInBounds i true) L r
   | 3=>L.contains (i,none)&&(Region.ready md ops (pc sl (bT (L.filter fun x=>x.1 !=i)))).all (fun j=>(bT L).contains j)&&bS md ops wr (sl.setIfInBounds i true) (L.filter fun x=>x.1 !=i) r
   | 4=>(Region.ready md ops sl).contains i&&!(bT L).contains i&&mkG ops i&&(bT L).all (uk ops i)&&bS md ops wr sl ((i,none)::L) r
   | 5=>(Region.ready md ops sl).contains i&&!(bT L).contains i&&B8 md ops sl i&&(bT L).all (uk ops i)&&bS md ops wr (sl.setIfInBounds i true) L r
   | 6=>false
   | 7=>false
   | 8=>L.isEmpty&&(Region.ready md ops sl).contains i&&(Region.ready md ops sl).contains p&&(Region.ready md ops sl).all (fun j=>j==i || j==p)&&(Region.ready md ops (sl.setIfInBounds i true)==[p])&&(Region.ready md ops (sl.setIfInBounds p true)==[i])&&lsG ops i p&&wr p&&uk ops i p&&bS md ops wr ((sl.setIfInBounds i true).setIfInBounds p true) [] r
   | 9=>false
   | 10=>L.isEmpty&&yR md ops wr (r.take i) (pc sl ((r.take i).map (·.1))) i sl p&&bS md ops wr (pc sl ((r.take i).map (·.1))) [] r
   | 11=>bS md ops wr sl L r
   | 12=>bS md ops wr sl L r
   | _=>false
theorem aY (al:Array Bool) (i j:Nat) (d:Bool):(al.setIfInBounds i true).getD j d=if i=j∧i<al.size then true else al.getD j d:=by
 by_cases h:i=j
 · subst h
   by_cases hs:i<al.size
   · simp[hs]
   · simp[hs]
 · rw[getD_set_ne d h,if_neg (fun e=>h e.1)]
structure LsR (sl al:Array Bool) (ids:List Nat):Prop where
 a1:∀j:Nat,sl.getD j false=true→al.getD j false=true
 a2:∀j:Nat,al.getD j true=false→sl.getD j true=false
 a3:∀j:Nat,al.getD j false=true→sl.getD j false=true∨j∈ids
 a4:∀j:Nat,sl.getD j true=false→j ∉ ids→al.getD j true=false
theorem LsR.refl (al:Array Bool):LsR al al []:=⟨fun _ h=>h,fun _ h=>h,fun _ h=>.inl h,fun _ h _=>h⟩
theorem LsR.set {sl al:Array Bool} {ids:List Nat} (h:LsR sl al ids) (hs:sl.size=al.size) (i:Nat):LsR (sl.setIfInBounds i true) (al.setIfInBounds i true) ids:=by
 refine⟨fun j hj=>?_,fun j hj=>?_,fun j hj=>?_,fun j hj hn=>?_⟩<;>rw[aY] at hj ⊢
 · split at hj
   · rw[if_pos (by rename_i hc;exact⟨hc.1,by omega⟩)]
   · split
     · rfl
     · exact h.a1 j hj
 · split at hj
   · cases hj
   · rename_i hc
     rw[if_neg (fun e=>hc ⟨e.1,by omega⟩)];exact h.a2 j hj
 · split at hj
   · rename_i hc
     rw[if_pos ⟨hc.1,by omega⟩];exact .inl rfl
   · rename_i hc
     rw[if_neg (fun e=>hc ⟨e.1,by omega⟩)];exact h.a3 j hj
 · split at hj
   · cases hj
   · rename_i hc
     rw[if_neg (fun e=>hc ⟨e.1,by omega⟩)];exact h.a4 j hj hn
theorem LsR.early {sl al:Array Bool} {ids:List Nat} (h:LsR sl al ids) {i:Nat} (hi:i∈ids):LsR sl (al.setIfInBounds i true) ids:=by
 refine⟨fun j hj=>?_,fun j hj=>?_,fun j hj=>?_,fun j hj hn=>?_⟩
 · rw[aY]
   split
   · rfl
   · exact h.a1 j hj
 · rw[aY] at hj
   split at hj
   · cases hj
   · exact h.a2 j hj
 · rw[aY] at hj
   split at hj
   · rename_i hc
     exact .inr (hc.1▸hi)
   · exact h.a3 j hj
 · rw[aY,if_neg (fun(e:i=j∧i<al.size)=>hn (e.1▸hi))]
   exact h.a4 j hj hn
theorem LsR.fin {sl al:Array Bool} {ids ids':List Nat} (h:LsR sl al ids) {i:Nat} (hs:sl.size=al.size) (hi:i<al.size) (ha:al.getD i false=true) (hn:∀j∈ids,j∈ids'∨j=i) (hs':∀j∈ids',j∈ids):LsR (sl.setIfInBounds i true) al ids':=by
 have ha':al.getD i true=true:=by
  have e:al.getD i true=al.getD i false:=by simp[hi]
  rw[e,ha]
 refine⟨fun j hj=>?_,fun j hj=>?_,fun j hj=>?_,fun j hj hno=>?_⟩
 · rw[aY] at hj
   split at hj
   · rename_i hc;rw[←hc.1];exact ha
   · exact h.a1 j hj
 · rw[aY,if_neg (fun(e:i=j∧i<sl.size)=>by rw[←e.1,ha'] at hj;cases hj)]
   exact h.a2 j hj
 · rw[aY]
   by_cases hj':i=j
   · rw[if_pos ⟨hj',by omega⟩];exact .inl rfl
   · rw[if_neg (fun e=>hj' e.1)]
     rcases h.a3 j hj with h1 | h1
     · exact .inl h1
     · rcases hn j h1 with h2 | h2
       · exact .inr h2
       · exact absurd h2.symm hj'
 · rw[aY] at hj
   split at hj
   · cases hj
   · rename_i hc
     refine h.a4 j hj fun hin=>?_;rcases hn j hin with h2 | h2
     · exact hno h2
     · exact hc ⟨h2.symm,by omega⟩
theorem LsR.more {sl al:Array Bool} {ids ids':List Nat} (h:LsR sl al ids) (hs:∀j∈ids,j∈ids'):LsR sl al ids':=
 ⟨h.a1,h.a2,fun j hj=>(h.a3 j hj).imp id (hs j),fun j hj hn=>h.a4 j hj fun hin=>hn (hs j hin)⟩
section
variable {md:Region.Mode} {ops:Array Oper}
theorem kn {x y:Array Bool} {j:Nat} (h:j∈Region.ready md ops x) (hle:∀q:Nat,x.getD q false=true→y.getD q false=true) (hu:y.getD j true=false):j∈Region.ready md ops y:=by
 rw[mem_ready] at*
 obtain ⟨_,o,ho,hall⟩:=h;exact⟨hu,o,ho,fun e he hb=>hle _ (hall e he hb)⟩
theorem P5 {x:Array Bool} {j:Nat} (h:j∈Region.ready md ops x):j<ops.size:=by
 obtain ⟨_,o,ho,_⟩:=mem_ready.1 h;exact(ak4.1 ho).1
theorem AJ:∀(l:List Nat) (sl:Array Bool) (j:Nat),(sl.getD j false=true∨(j∈l∧j<sl.size))→(pc sl l).getD j false=true
 | [],sl,j,h=>by
   rcases h with h | ⟨h,_⟩
   · exact h
   · simp at h
 | i::l,sl,j,h=>by
   show(pc (sl.setIfInBounds i true) l).getD j false=true
   refine AJ l _ j ?_;rw[aY];rcases h with h | ⟨h,hlt⟩
   · left
     split
     · rfl
     · exact h
   · rcases ajC.1 h with rfl | h
     · left;rw[if_pos ⟨rfl,hlt⟩]
     · right;exact⟨h,by simpa using hlt⟩
theorem Hi:∀(l:List Nat) (sl:Array Bool) (j:Nat),sl.getD j true=false→j ∉ l→(pc sl l).getD j true=false
 | [],sl,j,h,_=>h
 | i::l,sl,j,h,hn=>by
   show(pc (sl.setIfInBounds i true) l).getD j true=false
   simp only[ajC,not_or] at hn;refine Hi l _ j ?_ hn.2;rw[aY,if_neg (fun e=>hn.1 e.1.symm)];exact h
def E7 (al:Array Bool):Nat:=(al.toList.filter fun b=> !b).length
theorem eP {al:Array Bool} {i:Nat} (h:al.getD i true=false):E7 (al.setIfInBounds i true)+1=E7 al:=by
 have aux:∀(l:List Bool) (i:Nat),l[i]? =some false→((l.set i true).filter fun b=> !b).length+1=(l.filter fun b=> !b).length:=by
  intro l
  induction l with
  | nil=>intro i h;simp at h
  | cons b l ih=>
    intro i h
    cases i with
    | zero=>simp at h;subst h;simp
    | succ i=>
      have:=ih i (by simpa using h)
      cases b<;>simp[List.set_cons_succ] at this ⊢<;>omega
 unfold E7;rw[Array.toList_setIfInBounds];refine aux _ _ ?_
 have hlt:i<al.size:=by
  rcases akT i al.size with h1 | h1
  · exact h1
  · simp[h1] at h
 rw[akE,akx hlt];simp[hlt] at h;rw[h]
theorem Me (n:Nat):E7 (Array.replicate n false)=n:=by
 unfold E7;rw[Array.toList_replicate]
 simp
theorem cw {L:List (Nat×Option Nat)} {j:Nat}:j∈bT L↔∃x∈L,j=x.1∨x.2=some j:=by
 unfold bT;rw[List.mem_flatMap];constructor
 · rintro ⟨x,hx,h⟩
   refine⟨x,hx,?_⟩;rcases ajC.1 h with h | h
   · exact .inl h
   · exact .inr (by simpa using h)
 · rintro ⟨x,hx,h⟩
   refine⟨x,hx,?_⟩;rcases h with h | h
   · rw[h];simp
   · exact akJ _ (by simpa using h)
theorem i6 {i l:Nat} {x y:Oper} (h:uk ops i l=true) (hx:ops[i]? =some x) (hy:ops[l]? =some y):x.apart ops y=true:=by
 unfold uk at h;rw[hx,hy] at h;exact h
theorem Bw {x y:Oper} (h:x.apart ops y=true):y.apart ops x=true:=by
 obtain ⟨h1,h2,h3⟩:=Oper.apart_spec h;unfold Oper.apart
 cases hx:x.dst with
 | none=>
   cases hy:y.dst with
   | none=>rfl
   | some e=>
     have:=h3 e hy
     simp[this]
 | some d=>
   cases hy:y.dst with
   | none=>
     have:=h1 d hx
     simp[this]
   | some e=>
     have a1:=h1 d hx;have a2:=h2 d hx;have a3:=h3 e hy;rw[hy] at a2;simp[a1,a3];intro he;exact a2 (by rw[he])
theorem Jv {i l:Nat} (h:uk ops i l=true):uk ops l i=true:=by
 unfold uk at*
 cases hx:ops[i]? with
 | none=>rw[hx] at h;cases h
 | some x=>
   cases hy:ops[l]? with
   | none=>rw[hx,hy] at h;cases h
   | some y=>
     rw[hx,hy] at h;exact Bw h
end
end Go.Vx
namespace Go.Vx
open Go.Eng
set_option linter.unusedSimpArgs false
set_option linter.unusedVariables false
abbrev KR:=Bool→Vg→St→Prop
abbrev gn:=Bool→Exit→Vg→St→Prop
def og (g:V) (want:Bool) (A B:Bool→Prop):Prop:=match g with
 | .lit (.bool b)=>if b=want then A true else B true
 | .tup []=>B true
 | _=>False
def Ai (v:V) (A B:Bool→Prop):Prop:=match v with
 | .lit (.bool b)=>(b=true→A true)∧(b=false→B true)
 | _=>False
def bq (ρ:Vg) (d:Option Tmp) (v:V):Vg:=match d with
 | some d=>(d,v)::ρ
 | none=>ρ
def opsV (τ:Bool) (P:Program) (all:Array Oper):List Oper→Vg→St→KR→Prop
 | [],ρ,σ,K=>K true ρ σ
 | o::r,ρ,σ,K=>
   match o.guard with
   | none=>eI τ false P o ρ σ fun τ v σ'=>opsV τ P all r (bq ρ o.dst v) σ' K
   | some (j,want)=>
     match (all[j]?).bind (·.dst) with
     | some t=>j5 ρ t fun g=>og g want (fun τ=>eI τ false P o ρ σ fun τ v σ'=>opsV τ P all r (bq ρ o.dst v) σ' K) (fun τ=>opsV τ P all r (bq ρ o.dst (.tup [])) σ K)
     | none=>False
def na (τ:Bool) (P:Program) (o:Oper) (ρ:Vg) (σ:St) (F:FV):Prop:=match o.op with
 | .load t x=>cq ρ x fun u=>fe P t u σ F
 | .slice t x lo hi mx=>cq ρ x fun u=>jD ρ lo fun l=>jD ρ hi fun h=>jD ρ mx fun m=>AG P t u l h m σ F
 | .convert s t x=>cq ρ x fun u=>eS P s t u σ F
 | .call c=>(match c.callee,c.argTypes.toList with
   | .builtin .len,[t]=>j8 ρ c.args.toList fun us=>eJ P true .len [t] us σ fun τ v _=>F τ v
   | _,_=>False)
 | .build .. | .makeInterface .. =>False
 | _=>iL τ P o ρ F
theorem pL {P:Program} {t et ty:TypeId} {cst:Array Bool} {x:Option Addr} {n c:Nat} {w:World} (ht:P.underlying t=some (.slice et)):(builtin .len #[t] ty cst #[.slice x n c]).run P w=.ok (.value (.int .i64 n)) w:=by
 unfold builtin Builtin.len_;simp only[Sem.run_bind,akr,akR];simp only[run_underlying ht,Result.andThen_ok]
 rfl
theorem Jy {P:Program} {t et ty:TypeId} {z:Nat} {cst:Array Bool} {u:V} {a:Value} {F:FV} {w:World} {Im:Nat→Prop} {μ:Mu} (hel:fo P t=some (et,z)) (hu:RepV w Im μ u a) (h:fB u F):
 ∃u' v,RepV w Im μ u' v∧F true u'∧∀w',(builtin .len #[t] ty cst #[a]).run P w'=.ok (.value v) w':=by
 obtain ⟨ht,_⟩:=cH hel;unfold fB at h
 split at h
 · cases hu with
   | row hp=>cases hp with
     | row hl _ _ _ _ _ _ _=>subst hl;exact⟨_,_,.lit rfl,h,fun _=>pL ht⟩
 · cases hu with
   | xrow hp=>cases hp with
     | row hl _ _ _ _ _ _ _=>subst hl;exact⟨_,_,.lit rfl,h,fun _=>pL ht⟩
 · cases hu with
   | sl _=>exact⟨_,_,.lit rfl,h,fun _=>pL ht⟩
 · cases hu
   exact⟨_,_,.lit rfl,h,fun _=>pL ht⟩
 · exact h.elim
theorem GG {P:Program} {t ty:TypeId} {cst:Array Bool} {u:V} {a:Value} {F:FV} {w:World} {Im:Nat→Prop} {μ:Mu} (hu:RepV w Im μ u a) (h:yl P t u F):
 ∃u' v,RepV w Im μ u' v∧F true u'∧∀w',(builtin .len #[t] ty cst #[a]).run P w'=.ok (.value v) w':=by
 unfold yl at h
 split at h
 · rename_i s
   split at h
   · rename_i hst
     have ht:=fK hst
     cases hu
     refine⟨_,_,.lit rfl,h,fun w'=>?_⟩;unfold builtin Builtin.len_;simp only[Sem.run_bind,akr,akR];simp only[run_underlying ht,Result.andThen_ok]
     rfl
   · exact h.elim
 · split at h
   · rename_i ez hel
     exact Jy (et:=ez.1) (z:=ez.2) hel hu h
   · exact h.elim
def cG (τ:Bool) (P:Program) (o:Oper) (ρ:Vg) (σ:St) (tag:Nat) (k:KV):Prop:=match tag with
 | 0=>na τ P o ρ σ fun τ v=>k τ v σ
 | 1=>eI τ true P o ρ σ k
 | _=>eI τ false P o ρ σ k
def gG (τ:Bool) (P:Program) (all:Array Oper) (o:Oper) (ρ:Vg) (σ:St) (tag:Nat) (K:KR):Prop:=
 match o.guard with
 | none=>cG τ P o ρ σ tag fun τ v σ'=>K τ (bq ρ o.dst v) σ'
 | some (j,want)=>
   match (all[j]?).bind (·.dst) with
   | some t=>j5 ρ t fun g=>og g want (fun τ=>cG τ P o ρ σ tag fun τ v σ'=>K τ (bq ρ o.dst v) σ') (fun τ=>K τ (bq ρ o.dst (.tup [])) σ)
   | none=>False
def NR (ρ:Vg) (d:Option Tmp) (p:Prop):Prop:=match d with
 | some d=>(match tY ρ d with
   | none=>p
   | some _=>False)
 | none=>False
def sI (u v:V) (p:Prop):Prop:=u=v∧p
def EL (τ:Bool) (P:Program) (all:Array Oper) (rm:Nat) (ρ:Vg) (σ:St) (k:Bool→Nat→Vg→St→Prop):List (Nat×Nat×Nat)→Prop
 | []=>True
 | (j,t,q)::T=>match Ng rm j q with
   | true=>(bR all.toList j fun o=>cG τ P o ρ σ (t-10) fun τ u σ'=>k τ j (bq ρ o.dst u) σ')∧EL τ P all rm ρ σ k T
   | false=>EL τ P all rm ρ σ k T
def bB (P:Program) (all:Array Oper) (S:List (Nat×Nat×Nat)):Nat→Nat→Bool→Vg→St→KR→Prop
 | 0,_,τ,ρ,σ,F=>F τ ρ σ
 | n+1,rm,τ,ρ,σ,F=>EL τ P all rm ρ σ (fun τ j ρ' σ'=>bB P all S n (rm-2^j) τ ρ' σ' F) S
def bY (τ:Bool) (P:Program) (all:Array Oper):List (Nat×Nat×Nat)→Vg→St→KR→Prop
 | [],ρ,σ,K=>K true ρ σ
 | (i,t,p)::r,ρ,σ,K=>match t with
   | 10=>bB P all (r.take i) i p τ ρ σ fun τ ρ' σ'=>bY τ P all r ρ' σ' K
   | 11=>bY τ P all r ρ σ K
   | 12=>bY τ P all r ρ σ K
   | t=>bR all.toList i fun o=>match t with
   | 0=>gG τ P all o ρ σ 0 fun τ ρ' σ'=>bY τ P all r ρ' σ' K
   | 1=>gG τ P all o ρ σ 1 fun τ ρ' σ'=>bY τ P all r ρ' σ' K
   | 2=>gG τ P all o ρ σ 2 fun τ ρ' σ'=>bY τ P all r ρ' σ' K
   | 3=>eI τ true P o ρ σ fun τ u σ'=>bY τ P all r (bq ρ o.dst u) σ' K
   | 4=>NR ρ o.dst (eI τ true P o ρ σ fun τ _ _=>bY τ P all r ρ σ K)
   | 5=>iL τ P o ρ fun τ u=>bY τ P all r (bq ρ o.dst u) σ K
   | 6=>bR all.toList p fun q=>eI τ true P q ρ σ fun τ u σ1=>eI τ false P o (bq ρ q.dst u) σ1 fun τ _ _=>bY τ P all r ρ σ K
   | 7=>bR all.toList p fun q=>eI τ true P q ρ σ fun τ u σ1=>eI τ false P o (bq ρ q.dst u) σ1 fun τ _ σ2=>bY τ P all r (bq ρ q.dst u) σ2 K
   | 8=>bR all.toList p fun q=>eI τ true P o ρ σ fun τ u _=>eI τ false P q ρ σ fun τ _ σ1=>eI τ true P o ρ σ1 fun τ u2 _=>sI u2 u (bY τ P all r (bq ρ o.dst u) σ1 K)
   | 9=>bR all.toList p fun q=>bR all.toList (i+1) fun c=>eI τ true P o ρ σ fun τ u _=>eI τ false P q ρ σ fun τ _ σ1=>eI τ true P o ρ σ1 fun τ u2 _=>sI u2 u (iL τ P c (bq ρ o.dst u) fun τ u3=>bY τ P all r (bq (bq ρ o.dst u) c.dst u3) σ1 K)
   | _=>False
def mc (K:KR) (Q:gn):gn:=fun τ e ρ σ=>match e with
 | .normal=>K τ ρ σ
 | e=>Q τ e ρ σ
def ov (id:Nat) (Q:gn):gn:=fun τ e ρ σ=>match e with
 | .exit i=>if i=id then Q τ .normal ρ σ else Q τ (.exit i) ρ σ
 | e=>Q τ e ρ σ
def xZ (k:Nat) (body:Vg→St→gn→Prop) (ρ:Vg) (σ:St) (Q:gn):Prop:=
 ∃I:Nat→Vg→St→Prop,(∃m π ρ₀ σ₀,Ko k π ρ₀ σ₀ ρ σ∧I m ρ₀ σ₀)∧
  ∀m ρ σ,I m ρ σ→body ρ σ (mc (fun _ ρ' σ'=>∃m' π ρ₀ σ₀,m'<m∧Ko k π ρ₀ σ₀ ρ' σ'∧I m' ρ₀ σ₀) Q)
abbrev aI:=Nat→List (Nat×Nat×Nat)
def AX (Q:gn):gn:=fun τ e ρ σ=>match e with
 | .goto _=>False
 | e=>Q τ e ρ σ
def ei (τ:Bool) (P:Program) (k:Nat) (pl:aI):Code→Vg→St→gn→Prop
 | .skip,ρ,σ,Q=>Q true .normal ρ σ
 | .region id ops draw,ρ,σ,Q=>bif draw then bY τ P ops (pl id) ρ σ fun τ=>Q τ .normal else opsV τ P ops ops.toList ρ σ fun τ=>Q τ .normal
 | .seq a b,ρ,σ,Q=>ei τ P k pl a ρ σ (mc (fun τ ρ' σ'=>ei τ P k pl b ρ' σ' Q) Q)
 | .cond c a b,ρ,σ,Q=>cq ρ c fun v=>Ai v (fun τ=>ei τ P k pl a ρ σ Q) (fun τ=>ei τ P k pl b ρ σ Q)
 | .block id c,ρ,σ,Q=>ei τ P k pl c ρ σ (ov id Q)
 | .loop c,ρ,σ,Q=>xZ k (ei true P k pl c) ρ σ Q
 | .exit id,ρ,σ,Q=>Q true (.exit id) ρ σ
 | .ret,ρ,σ,Q=>Q true .ret ρ σ
 | .scope c,ρ,σ,Q=>ei τ P k pl c ρ σ (AX Q)
 | .label _,ρ,σ,Q=>Q true .normal ρ σ
 | _,_,_,_=>False
def chk (n:Nat) (pl:aI):Code→Bool
 | .region id ops draw=>(ops.toList.all fun o=>o.dst.all (· <n))&&(!draw || (Region.noSelect ops&&bS .any ops (fun j=>(pl id).any fun p=>(p.1==j&&(p.2.1==2 || p.2.1==7 || p.2.1==12)) || ((p.2.1==8 || p.2.1==9)&&p.2.2==j)) (Array.replicate ops.size false) [] (pl id)))
 | .seq a b=>chk n pl a&&chk n pl b
 | .cond _ a b=>chk n pl a&&chk n pl b
 | .block _ c=>chk n pl c
 | .loop c=>chk n pl c
 | .scope c=>chk n pl c
 | _=>true
structure Stq (k:Nat) (μ:Mu) (Im:Nat→Prop) (σ:St) (w:World) (μ':Mu) (Im':Nat→Prop) (σ':St) (w':World):Prop where
 pre:∀i,i<k→μ'[i]? =μ[i]?
 im:∀b,Im b→Im' b
 ext:Ext (live μ σ) w w'
 live:∀b∈live μ' σ',b∈live μ σ∨w.heap.size≤b
 fresh:∀b,Im' b→Im b∨b∈Vx.live μ σ∨w.heap.size≤b
theorem Stp.toq {k:Nat} {μ μ':Mu} {Im Im':Nat→Prop} {σ σ':St} {w w':World} (h:Stp μ Im σ w μ' Im' σ' w') (hk:k≤μ.length):Stq k μ Im σ w μ' Im' σ' w':=
 ⟨fun i hi=>by
  obtain ⟨t,e⟩:=h.pre;rw[←e,ajw (by omega)],h.im,h.ext,h.live,h.fresh⟩
theorem Stq.trans {k:Nat} {μ μ' μ'':Mu} {Im Im' Im'':Nat→Prop} {σ σ' σ'':St} {w w' w'':World} (h:Stq k μ Im σ w μ' Im' σ' w') (j:Stq k μ' Im' σ' w' μ'' Im'' σ'' w''):Stq k μ Im σ w μ'' Im'' σ'' w'':=by
 have hz:=h.ext.size;refine⟨fun i hi=>by rw[j.pre i hi,h.pre i hi],fun b hb=>j.im b (h.im b hb),h.ext.trans j.ext h.live,fun b hb=>?_,fun b hb=>?_⟩
 · rcases j.live b hb with h1 | h1
   · exact h.live b h1
   · exact .inr (by omega)
 · rcases j.fresh b hb with h1 | h1 | h1
   · exact h.fresh b h1
   · rcases h.live b h1 with h2 | h2
     · exact .inr (.inl h2)
     · exact .inr (.inr h2)
   · exact .inr (.inr (by omega))
section
variable {P:Program} {k n:Nat} {pl:aI}
def TrK (k:Nat) (μ:Mu) (Im:Nat→Prop) (σ:St) (w:World) (K:KR) (Kc:Kr):Prop:=
 ∀ρ' σ' μ' Im' w' ρc,Rel μ' Im' σ' w'→Stq k μ Im σ w μ' Im' σ' w'→ed w' Im' μ' ρ' ρc→k≤μ'.length→K true ρ' σ'→Kc true ρc w'
def TrQ (k:Nat) (μ:Mu) (Im:Nat→Prop) (σ:St) (w:World) (Q:gn) (Qc:jP):Prop:=
 ∀e ρ' σ' μ' Im' w' ρc,Rel μ' Im' σ' w'→Stq k μ Im σ w μ' Im' σ' w'→ed w' Im' μ' ρ' ρc→k≤μ'.length→Q true e ρ' σ'→Qc true e ρc w'
theorem Stp.len {μ μ':Mu} {Im Im':Nat→Prop} {σ σ':St} {w w':World} (h:Stp μ Im σ w μ' Im' σ' w'):μ.length≤μ'.length:=h.pre.length_le
theorem ed.put {w:World} {Im:Nat→Prop} {μ:Mu} {ρ:Vg} {ρc:Rg} (h:ed w Im μ ρ ρc) (d:Option Tmp) {u:V} {v:Value} (hv:RepV w Im μ u v):ed w Im μ (bq ρ d u) (put ρc d v):=by
 cases d with
 | none=>exact h
 | some d=>exact h.cons d hv
theorem jf {w:World} {Im:Nat→Prop} {μ:Mu}:RepV w Im μ (.tup []) undef:=.tup (C:=[]) rfl (fun i u c h=>by simp at h)
theorem FC {w:World} {Im:Nat→Prop} {μ:Mu} {g:V} {v:Value} {want:Bool} {A B A' B':Bool→Prop} (hg:RepV w Im μ g v) (h:og g want A B) (hA:A true→A' true) (hB:B true→B' true):Um v want A' B':=by
 unfold og at h
 split at h
 · cases hg
   unfold Um
   split at h
   · rename_i hb;show(if _=want then _ else _);rw[if_pos hb];exact hA h
   · rename_i hb;show(if _=want then _ else _);rw[if_neg hb];exact hB h
 · cases hg with
   | @tup _ C hn _=>
     have:C=[]:=ajB.1 hn
     subst this;exact hB h
 · exact h.elim
theorem ia {all:Array Oper} {K:KR} {Kc:Kr}:∀(l:List Oper) (τ:Bool) (ρ:Vg) (σ:St) (μ:Mu) (Im:Nat→Prop) (w:World) (ρc:Rg),k≤μ.length→Rel μ Im σ w→ed w Im μ ρ ρc→TrK k μ Im σ w K Kc→opsV τ P all l ρ σ K→pF true P all l ρc w Kc
 | [],τ,ρ,σ,μ,Im,w,ρc,hk,r,hg,tr,h=>tr ρ σ μ Im w ρc r ((Stp.refl _ _ _ _).toq hk) hg hk h
 | o::l,τ,ρ,σ,μ,Im,w,ρc,hk,r,hg,tr,h=>by
   have run:∀{τ τ':Bool},eI τ false P o ρ σ (fun τ v σ'=>opsV τ P all l (bq ρ o.dst v) σ' K)→oT true P o ρc w fun τ v w'=>pF τ P all l (put ρc o.dst v) w' Kc:=fun{τ τ'} h'=>by
    refine jt r hg h' (fun τ v w'=>pF τ P all l (put ρc o.dst v) w' Kc) fun v w' u σ' μ' Im' r' s' _ hv hK=>?_;have hk':k≤μ'.length:=ajD hk s'.len;exact ia l true _ σ' μ' Im' w' _ hk' r' ((hg.mono (s'.mono r)).put _ hv) (fun ρ'' σ'' μ'' Im'' w'' ρc' r'' s''=>tr ρ'' σ'' μ'' Im'' w'' ρc' r'' ((s'.toq hk).trans s'')) hK
   unfold opsV at h;unfold pF
   cases hgd:o.guard with
   | none=>
     rw[hgd] at h;exact run (τ':=true) h
   | some jw=>
     obtain ⟨j,want⟩:=jw;rw[hgd] at h;simp only at h ⊢
     cases ht:(all[j]?).bind (·.dst) with
     | none=>rw[ht] at h;exact h.elim
     | some t=>
       rw[ht] at h;simp only at h ⊢;obtain ⟨g,gv,h1,h2,h3⟩:=lK hg h;rw[h3];exact FC h1 h2 (fun h=>run (τ':=true) h) (fun h=>ia l true _ σ μ Im w _ hk r (hg.put _ jf) tr h)
theorem BB {τ:Bool} {o:Oper} {ρ:Vg} {σ:St} {F:FV} {μ:Mu} {Im:Nat→Prop} {w:World} {ρc:Rg} {kk:Bool→Value→Prop} (r:Rel μ Im σ w) (hg:ed w Im μ ρ ρc) (h:na τ P o ρ σ F) (hk:∀u v,RepV w Im μ u v→F true u→kk true v):QU true P o ρc w kk:=by
 obtain ⟨d,op,ty,pos,af,g⟩:=o
 have val:iL τ P ⟨d,op,ty,pos,af,g⟩ ρ F→∃v,kk true v∧∀w' (k:Kv),oT true P ⟨d,op,ty,pos,af,g⟩ ρc w' k=k true v w':=fun h=>by
  obtain ⟨u,v,h1,h2,h3⟩:=mH hg h;exact⟨v,hk u v h1 h2,h3⟩
 have any:iL τ P ⟨d,op,ty,pos,af,g⟩ ρ F→Lv w (fun w' v=>oT true P ⟨d,op,ty,pos,af,g⟩ ρc w' fun _ u w''=>w''=w'∧u=v) kk:=fun h=>by
  obtain ⟨v,h1,h2⟩:=val h;exact⟨v,fun w' _=>by dsimp only;rw[h2];exact⟨rfl,rfl⟩,h1⟩
 unfold na at h
 cases op with
 | load t x=>
   obtain ⟨u,a,h1,h2,h3⟩:=aU hg h;show dw ρc x fun a=>dA P t a w fun τ v _=>kk τ v;rw[h3];obtain ⟨u',v',h4,h5,h6⟩:=jj r h1 h2;rw[h6];exact hk u' v' h4 h5
 | move x=>
   obtain ⟨u,a,h1,h2,h3⟩:=aU hg (h:cq ρ x fun u=>F true u);show dw ρc x fun v=>kk true v;rw[h3];exact hk u a h1 h2
 | assign x=>
   obtain ⟨u,a,h1,h2,h3⟩:=aU hg (h:cq ρ x fun u=>F true u);show dw ρc x fun v=>kk true v;rw[h3];exact hk u a h1 h2
 | pick=>exact any h
 | binOp=>exact any h
 | unOp=>exact any h
 | convert s t x=>
   obtain ⟨u,a,h1,h2,h3⟩:=aU hg h;obtain ⟨u',v',h4,h5,h6⟩:=sA r h1 h2;refine(⟨v',fun w' he=>?_,hk u' v' h4 h5⟩:Lv w (fun w' v=>dw ρc x fun v'=>tb P s t v' w' fun _ u w''=>w''=w'∧u=v) kk);dsimp only;rw[h3,h6 w' he];exact⟨rfl,rfl⟩
 | slice t x lo hi mx=>
   obtain ⟨u,a,h1,h2,h3⟩:=aU hg h;obtain ⟨ul,al,l1,l2,l3⟩:=eT hg h2;obtain ⟨uh,ah,i1,i2,i3⟩:=eT hg l2;obtain ⟨um,am,m1,m2,m3⟩:=eT hg i2;obtain ⟨u',v',h4,h5,h6⟩:=ql r h1 l1 i1 m1 m2;have h7:∀w' (k:Kv),kI P t a al ah am w' k=k true v' w':=h6;refine(⟨v',fun w' _=>?_,hk u' v' h4 h5⟩:Lv w (fun w' v=>dw ρc x fun v'=>ju ρc lo fun lo=>ju ρc hi fun hi=>ju ρc mx fun mx=>kI P t v' lo hi mx w' fun _ u w''=>w''=w'∧u=v) kk);dsimp only;rw[h3,l3,i3,m3,h7];exact⟨rfl,rfl⟩
 | fieldAddr=>exact any h
 | field=>exact any h
 | indexAddr=>exact any h
 | index=>exact any h
 | extract=>exact any h
 | nilCheck=>exact any h
 | build=>exact(h:False).elim
 | call c=>
   obtain ⟨callee,args,ats⟩:=c
   cases callee with
   | builtin b=>
     cases b with
     | len=>
       obtain ⟨atl⟩:=ats
       match atl,h with
       | [t],h=>
         have h:j8 ρ args.toList fun us=>eJ P true .len [t] us σ fun τ v _=>F τ v:=h;obtain ⟨us,vs,h4,h5,h6⟩:=dT hg h;show iu ρc args.toList fun args'=>∃v,(∀w',Ext [] w w'→(builtin .len #[t] ty (args.map fun | .const _=>true | _=>false) args'.toArray).run P w'=.ok (.value v) w')∧kk true v
         rw[h6]
         match us,h5 with
         | [u],h5=>
           have h5:yl P t u F:=h5;obtain ⟨a,vs',rfl,h7,h8⟩:=h4.uncons
           have:vs'=[]:=ajB.1 (by simpa using h8.1)
           subst this;obtain ⟨u',v,q1,q2,q3⟩:=GG h7 h5;exact⟨v,fun w' _=>q3 w',hk u' v q1 q2⟩
     | _=>exact(h:False).elim
   | _=>exact(h:False).elim
 | _=>exact(h:False).elim
theorem Eq.get_lt {α:Type} {l:Array α} {i:Nat} {x:α} (h:l[i]? =some x):i<l.size:=(ak4.1 h).1
structure Pd where
 i:Nat
 d:Nat
 o:Oper
 C:List Value
 ty:TypeId
 f:Nat→Value
 st:Option (Nat×Oper×TypeId×Operand×Value)
 done:Option Nat
 sdone:Bool
def Pd.cur (m:Pd):List Value:=match m.sdone,m.st with
 | true,some x=>dv m.C 0 x.2.2.2.2.cells.toList
 | _,_=>m.C
structure PdSt (P:Program) (ops:Array Oper) (wr:Nat→Bool) (sl al:Array Bool) (a:Act) (md:Region.Mode) (mk:List Nat) (m:Pd) (s:Nat) (os:Oper) (t:TypeId) (x:Operand) (v:Value):Prop where
 hs:ops[s]? =some os
 op:os.op=.store t (.tmp m.d) x
 ds:os.dst=none
 gd:os.guard=none
 ne:x≠ .tmp m.d
 ev:a.eval x=v
 sz:∃q,cS P t=some (q+1)∧v.cells.toList.length=q+1∧q+1≤m.C.length
 one:∀c∈v.cells.toList,bF c=true
 ptr:m.f=fun b=>.pointer (some ⟨b,0,none⟩)
 alc:∃t0,m.o.op=.alloc t0
 al:al.getD s true=m.sdone
 wr:wr s=true
 ul:sl.getD s true=false
 rd:∀e∈os.after,Region.binds md e=true→sl.getD e.on false=true∨e.on∈mk
 aft:∃e∈os.after,Region.binds md e=true∧e.on=m.i
structure PdOk (P:Program) (ops:Array Oper) (mk:List Nat) (md:Region.Mode) (wr:Nat→Bool) (sl al:Array Bool) (a:Act) (ρ:Vg) (ρc:Rg) (w:World) (lv:List Nat) (Im:Nat→Prop) (w0:Nat) (m:Pd):Prop where
 hi:ops[m.i]? =some m.o
 mkk:Z6 m.o=true
 gd:m.o.guard=none
 ds:m.o.dst=some m.d
 ex:∀w',(execOp a.eval m.o).run P w'=.ok (.value (m.f w'.heap.size)) (w'.alloc (.cells m.C.toArray m.ty))
 one:∀c∈m.C,bF c=true
 fd:tY ρ m.d=none
 slf:m.d ∉ m.o.looksAt ops
 rd:m.i∈Region.ready md ops sl
 dn:match m.done with
  | none=>al.getD m.i true=false∧m.sdone=false
  | some b=>al.getD m.i true=true∧Eng.fd ρc m.d=some (m.f b)∧iM w b m.cur∧w0≤b∧b ∉ lv∧¬Im b
 st:match m.st with
  | none=>m.sdone=false
  | some (s,os,t,x,v)=>PdSt P ops wr sl al a md mk m s os t x v
structure Sit (P:Program) (k n:Nat) (md:Region.Mode) (ops:Array Oper) (wr:Nat→Bool) (μ0:Mu) (Im0:Nat→Prop) (σ0:St) (w0:World) (L:List (Nat×Option Nat)) (sl al:Array Bool) (R:Nat→Pd) (a:Act) (ρ:Vg) (ρc:Rg) (σ:St) (μ:Mu) (Im:Nat→Prop) (w:World):Prop where
 ss:sl.size=ops.size
 as:al.size=ops.size
 ls:LsR sl al (bT L)
 ok:Ok n a ρc
 kl:k≤μ.length
 rel:Rel μ Im σ w
 rg:ed w Im μ ρ ρc
 sq:Stq k μ0 Im0 σ0 w0 μ Im σ w
 ap:∀x∈L,∀y∈L,x.1≠y.1→uk ops x.1 y.1=true∧∀s,y.2=some s→uk ops x.1 s=true
 nd:∀x∈L,∀y∈L,x.1=y.1→x=y
 nx:∀x∈L,∀y∈L,y.2≠some x.1
 ny:∀x∈L,∀y∈L,∀s,x.2=some s→y.2=some s→x=y
 ps:∀x∈L,(R x.1).i=x.1∧(R x.1).st.map (·.1)=x.2∧PdOk P ops (L.map (·.1)) md wr sl al a ρ ρc w (live μ σ) Im w0.heap.size (R x.1)
 ds:∀x∈L,∀y∈L,x.1≠y.1→∀b,(R x.1).done=some b→(R y.1).done≠some b
theorem KF {a:Act} {ρc:Rg} {d:Nat} {v:Value} (h:Ok n a ρc) (hf:Eng.fd ρc d=some v):a.eval (.tmp d)=v:=by
 have:=nb h (t:=d) (K:=fun u=>u=v) (by simp[lk,hf])
 exact this
theorem sj {ops:Array Oper} {o:Oper} {x:Nat} (h:Operand.tmp x∈o.op.operands.toList):x∈o.looksAt ops:=by
 unfold Oper.looksAt;exact List.mem_append_left _ (List.mem_filterMap.2 ⟨.tmp x,h,rfl⟩)
theorem qo {ops:Array Oper} {os:Oper} {t:TypeId} {y:Nat} {x:Operand} {d:Nat} (ho:os.op=.store t (.tmp y) x) (h:d ∉ os.looksAt ops):x≠ .tmp d:=by
 rintro rfl;refine h (sj ?_);rw[ho];simp[Op.operands]
theorem vr {a:Act} {x:Operand} {d:Nat} {v:Value} (h:x≠ .tmp d):(a.put (some d) v).eval x=a.eval x:=Act.eval_put fun e he hx=>by
 cases he;exact h hx
theorem CD {ρc:Rg} {d t:Nat} {v:Value} (h:d≠t):Eng.fd ((d,v)::ρc) t=Eng.fd ρc t:=by rw[nJ,if_neg h]
theorem Bz {ρ:Vg} {d t:Nat} {v:V} (h:d≠t):tY ((d,v)::ρ) t=tY ρ t:=by rw[iz,if_neg h]
theorem IN {ops:Array Oper} (hsel:Region.noSelect ops=true) {j:Nat} {o:Oper} (h:ops[j]? =some o):∀cs b,o.op≠ .select cs b:=fun cs b=>Region.noSelect_spec hsel j o cs b h
theorem fE {o:Oper} (h:o.guard=none) (y:Nat→Option Bool):Region.wanted o y=true:=ga h y
section
variable {md:Region.Mode} {ops:Array Oper} {wr:Nat→Bool} {μ0:Mu} {Im0:Nat→Prop} {σ0:St} {w0:World} {L:List (Nat×Option Nat)} {sl al:Array Bool} {R:Nat→Pd} {a:Act} {ρ:Vg} {ρc:Rg} {σ:St} {μ:Mu} {Im:Nat→Prop} {w:World}
theorem PdOk.more {mk mk':List Nat} {lv:List Nat} {z:Nat} {m:Pd} (q:PdOk P ops mk md wr sl al a ρ ρc w lv Im z m) (hs:∀j∈mk,j∈mk'):PdOk P ops mk' md wr sl al a ρ ρc w lv Im z m:=by
 refine⟨q.hi,q.mkk,q.gd,q.ds,q.ex,q.one,q.fd,q.slf,q.rd,q.dn,?_⟩;have hst:=q.st
 cases hms:m.st with
 | none=>rw[hms] at hst;exact hst
 | some y=>
   obtain ⟨s,os,t,x',v'⟩:=y;rw[hms] at hst;exact⟨hst.hs,hst.op,hst.ds,hst.gd,hst.ne,hst.ev,hst.sz,hst.one,hst.ptr,hst.alc,hst.al,hst.wr,hst.ul,fun e he hb=>(hst.rd e he hb).imp id (hs _),hst.aft⟩
theorem Sit.step (hsel:Region.noSelect ops=true) (h:Sit P k n md ops wr μ0 Im0 σ0 w0 L sl al R a ρ ρc σ μ Im w) {i:Nat} {o:Oper} (ho:ops[i]? =some o) (hdo:o.dst.all (· <n)=true) (hap:∀l∈bT L,uk ops i l=true)
 (hni:i ∉ bT L) {u:V} {v:Value} {w':World} {σ':St} {μ':Mu} {Im':Nat→Prop} (r':Rel μ' Im' σ' w') (s':Stp μ Im σ w μ' Im' σ' w') (hv:RepV w' Im' μ' u v):
 Sit P k n md ops wr μ0 Im0 σ0 w0 L (sl.setIfInBounds i true) (al.setIfInBounds i true) R (a.put o.dst v) (bq ρ o.dst u) (put ρc o.dst v) σ' μ' Im' w':=by
 refine⟨by simpa using h.ss,by simpa using h.as,h.ls.set (by rw[h.ss,h.as]) i,zO h.ok hdo v,ajD h.kl s'.len,r',(h.rg.mono (s'.mono h.rel)).put _ hv,h.sq.trans (s'.toq h.kl),h.ap,h.nd,h.nx,h.ny,fun x hx=>?_,h.ds⟩;obtain ⟨e1,e2,q⟩:=h.ps x hx;generalize hm:R x.1=m at*
 have hmi:m.i∈bT L:=cw.2 ⟨x,hx,.inl e1⟩;have hne:i≠m.i:=fun e=>hni (e▸hmi);obtain ⟨p1,p2,p3⟩:=Oper.apart_spec (i6 (hap _ hmi) ho q.hi);have hrd:∀{j:Nat} {z:Array Bool},j∈Region.ready md ops z→j≠i→j∈Region.ready md ops (z.setIfInBounds i true):=fun hj hn=>ready_mono hj hn;refine⟨e1,e2,q.hi,q.mkk,q.gd,q.ds,fun w''=>?_,q.one,?_,q.slf,hrd q.rd hne.symm,?_,?_⟩
 · rw[execOp_put (ops:=ops) m.o (IN hsel q.hi) a o.dst v p1]
   exact q.ex w''
 · cases hd:o.dst with
   | none=>exact q.fd
   | some d=>
     rw[hd] at p2
     have:=p2 d rfl
     rw[q.ds] at this;show tY ((d,u)::ρ) m.d=none;rw[Bz (fun e=>this (by rw[e]))];exact q.fd
 · have hdn:=q.dn
   cases hmd:m.done with
   | none=>
     rw[hmd] at hdn;exact⟨by rw[aY,if_neg (fun e=>hne e.1)];exact hdn.1,hdn.2⟩
   | some b=>
     rw[hmd] at hdn;obtain ⟨d1,d2,d3,d4,d5,d6⟩:=hdn;have hlt:=d3.lt;refine⟨by rw[aY,if_neg (fun e=>hne e.1)];exact d1,?_,d3.ext s'.ext d5,d4,fun hb=>?_,fun hb=>?_⟩
     · cases hd:o.dst with
       | none=>exact d2
       | some d=>
         rw[hd] at p2
         have:=p2 d rfl
         rw[q.ds] at this;show Eng.fd ((d,v)::ρc) m.d=_;rw[CD (fun e=>this (by rw[e]))];exact d2
     · rcases s'.live b hb with h1 | h1
       · exact d5 h1
       · omega
     · rcases s'.fresh b hb with h1 | h1 | h1
       · exact d6 h1
       · exact d5 h1
       · omega
 · have hst:=q.st
   cases hms:m.st with
   | none=>rw[hms] at hst;exact hst
   | some y=>
     obtain ⟨s,os,t,x',v'⟩:=y;rw[hms] at hst;have hsi:s∈bT L:=cw.2 ⟨x,hx,.inr (by rw[←e2,hms];rfl)⟩;have hsn:i≠s:=fun e=>hni (e▸hsi);obtain ⟨t1,t2,t3⟩:=Oper.apart_spec (i6 (hap _ hsi) ho hst.hs);refine⟨hst.hs,hst.op,hst.ds,hst.gd,hst.ne,?_,hst.sz,hst.one,hst.ptr,hst.alc,by rw[aY,if_neg (fun e=>hsn e.1)];exact hst.al,hst.wr,by rw[aY,if_neg (fun e=>hsn e.1)];exact hst.ul,?_,hst.aft⟩
     · cases hd:o.dst with
       | none=>exact hst.ev
       | some d=>rw[hd] at t1;rw[vr (qo hst.op (t1 d rfl))];exact hst.ev
     · exact fun e he hb=>(hst.rd e he hb).imp getD_set_true id
theorem D5 {w:World} {x y:Obj} (h:w.alloc x=w.alloc y):x=y:=by
 have:=congrArg World.heap h
 unfold World.alloc at this;have h2:=congrArg (fun(a:Array Obj)=>a[w.heap.size]?) this;simpa using h2
theorem Sit.make (hsel:Region.noSelect ops=true) (hd:∀(i:Nat) o,ops[i]? =some o→o.dst.all (· <n)=true) (h:Sit P k n md ops wr μ0 Im0 σ0 w0 L sl al R a ρ ρc σ μ Im w) {x:Nat×Option Nat} (hx:x∈L) (hu:al.getD x.1 true=false) {Q:Exit→Act→World→Prop} {F:Act→World→Prop}
 (hF:∀a' w' R' ρc',Ext [] w w'→Sit P k n md ops wr μ0 Im0 σ0 w0 L sl (al.setIfInBounds x.1 true) R' a' ρ ρc' σ μ Im w'→F a' w'):wpOp P ops Q x.1 F a w:=by
 obtain ⟨e1,e2,q⟩:=h.ps x hx;generalize hm:R x.1=m at*
 have hdone:m.done=none:=by
  cases hmd:m.done with
  | none=>rfl
  | some b=>
    have hdn:=q.dn;rw[hmd] at hdn;rw[←e1,hdn.1] at hu
    cases hu
 have hdn:=q.dn;rw[hdone] at hdn;have hdo:=hd _ _ q.hi;rw[q.ds] at hdo;have hxi:x.1∈bT L:=cw.2 ⟨x,hx,.inl rfl⟩;unfold wpOp;rw[←e1,q.hi];simp only;rw[if_pos (fE q.gd _)];refine .inl ?_;unfold Oper.wp;rw[q.ex w,Oper.upon_value,q.ds];have hx0:Ext [] w (w.alloc (.cells m.C.toArray m.ty)):=(Ext.refl [] w).alloc _;obtain ⟨r',s'⟩:=h.rel.still hx0;refine hF _ _ (fun j=>if j=x.1 then{m with done:=some w.heap.size} else R j) ((m.d,m.f w.heap.size)::ρc) hx0 ?_;have hlt:x.1<al.size:=by rw[h.as,←e1];exact Eq.get_lt q.hi
 refine⟨h.ss,by simpa using h.as,h.ls.early hxi,?_,h.kl,r',?_,h.sq.trans (s'.toq h.kl),h.ap,h.nd,h.nx,h.ny,fun y hy=>?_,fun y hy z hz hyz b=>?_⟩
 · exact zO h.ok hdo _
 · intro t u hu'
   obtain ⟨v,h1,h2⟩:=(h.rg.mono (s'.mono h.rel)) t u hu'
   have:m.d≠t:=fun e=>by rw[←e,q.fd] at hu';cases hu'
   exact⟨v,by rw[CD this];exact h1,h2⟩
 · obtain ⟨f1,f2,p⟩:=h.ps y hy
   by_cases hyx:y.1=x.1
   · have:=h.nd y hy x hx hyx
     subst this;rw[if_pos rfl];dsimp only;refine⟨e1,e2,q.hi,q.mkk,q.gd,q.ds,fun w''=>?_,q.one,q.fd,q.slf,q.rd,?_,?_⟩
     · have hna:∀d,some m.d=some d→d ∉ m.o.looksAt ops:=fun d he hl=>by
        cases he
        exact q.slf hl
       dsimp only;rw[execOp_put (ops:=ops) m.o (IN hsel q.hi) a (some m.d) _ hna];exact q.ex w''
     · dsimp only
       refine⟨by rw[e1,aY,if_pos ⟨rfl,hlt⟩],by rw[nJ,if_pos rfl],?_,?_,fun hb=>?_,fun hb=>?_⟩
       · have:({m with done:=some w.heap.size}:Pd).cur=m.C:=by
          unfold Pd.cur;rw[hdn.2]
         rw[this];exact iM.new _ _ _
       · exact h.sq.ext.size
       · have:=h.rel.lt hb;omega
       · have:=(h.rel.im _ hb).1;omega
     · have hst:=q.st
       cases hms:m.st with
       | none=>rw[hms] at hst;exact hst
       | some z=>
         obtain ⟨s,os,t,x',v'⟩:=z;rw[hms] at hst;have hsx:s≠y.1:=fun e=>h.nx y hy y hy (by rw[←e2,hms,←e];rfl);exact⟨hst.hs,hst.op,hst.ds,hst.gd,hst.ne,by rw[vr hst.ne];exact hst.ev,hst.sz,hst.one,hst.ptr,hst.alc,by rw[aY,if_neg (fun e=>hsx e.1.symm)];exact hst.al,hst.wr,hst.ul,hst.rd,hst.aft⟩
   · rw[if_neg hyx]
     generalize hmy:R y.1=m2 at*
     obtain ⟨ap1,ap2⟩:=h.ap x hx y hy (fun e=>hyx e.symm);obtain ⟨p1,p2,p3⟩:=Oper.apart_spec (i6 ap1 (e1▸q.hi) (f1▸p.hi));rw[q.ds] at p1 p2
     have hdd:m.d≠m2.d:=fun e=>by
      have:=p2 _ rfl
      rw[p.ds,e] at this;exact this rfl
     refine⟨f1,f2,p.hi,p.mkk,p.gd,p.ds,fun w''=>?_,p.one,p.fd,p.slf,p.rd,?_,?_⟩
     · rw[execOp_put (ops:=ops) m2.o (IN hsel p.hi) a (some m.d) _ (fun d he=>p1 d he)]
       exact p.ex w''
     · have hdn2:=p.dn
       cases hmd:m2.done with
       | none=>
         rw[hmd] at hdn2;exact⟨by rw[f1,aY,if_neg (fun e=>hyx e.1.symm),←f1];exact hdn2.1,hdn2.2⟩
       | some b=>
         rw[hmd] at hdn2;obtain ⟨d1,d2,d3,d4,d5,d6⟩:=hdn2;exact⟨by rw[f1,aY,if_neg (fun e=>hyx e.1.symm),←f1];exact d1,by rw[CD hdd];exact d2,d3.alloc _,d4,d5,d6⟩
     · have hst:=p.st
       cases hms:m2.st with
       | none=>rw[hms] at hst;exact hst
       | some z=>
         obtain ⟨s,os,t,x',v'⟩:=z;rw[hms] at hst;have hy2:y.2=some s:=by rw[←f2,hms];rfl
         have hsx:s≠x.1:=fun e=>h.nx x hx y hy (by rw[hy2,e]);obtain ⟨t1,t2,t3⟩:=Oper.apart_spec (i6 (ap2 s hy2) (e1▸q.hi) hst.hs);rw[q.ds] at t1;exact⟨hst.hs,hst.op,hst.ds,hst.gd,hst.ne,by rw[vr (qo hst.op (t1 _ rfl))];exact hst.ev,hst.sz,hst.one,hst.ptr,hst.alc,by rw[aY,if_neg (fun e=>hsx e.1.symm)];exact hst.al,hst.wr,hst.ul,hst.rd,hst.aft⟩
 · intro h1 h2
   by_cases hyx:y.1=x.1
   · by_cases hzx:z.1=x.1
     · exact hyz (hyx.trans hzx.symm)
     · rw[if_pos hyx] at h1
       rw[if_neg hzx] at h2
       cases h1
       obtain ⟨_,_,p⟩:=h.ps z hz;have hdn2:=p.dn;rw[h2] at hdn2
       have:=hdn2.2.2.1.lt
       omega
   · rw[if_neg hyx] at h1
     by_cases hzx:z.1=x.1
     · rw[if_pos hzx] at h2
       cases h2
       obtain ⟨_,_,p⟩:=h.ps y hy;have hdn2:=p.dn;rw[h1] at hdn2
       have:=hdn2.2.2.1.lt
       omega
     · rw[if_neg hzx] at h2
       exact h.ds y hy z hz hyz b h1 h2
theorem gtt {al:Array Bool} {j:Nat} (h:al.getD j false=true):al.getD j true=true:=by
 rcases akT j al.size with h1 | h1
 · simp[h1] at h ⊢;exact h
 · simp[h1] at h
theorem Rel.aside {w w':World} {b:Nat} (r:Rel μ Im σ w) (hx:Ext [b] w w') (hb:b ∉ live μ σ) (hi:¬Im b):Rel μ Im σ w'∧Mono μ Im w μ Im w':=by
 have hm:Mono μ Im w μ Im w':=⟨akb _,fun _ h=>h,fun c hc=>hx.block c (r.im c hc).1 (by
  simp only[akf];rintro rfl;exact hi hc)⟩
 refine⟨⟨r.len,fun o ob h=>?_,r.inj,fun c hc=>⟨aj2 (r.im c hc).1 hx.size,(r.im c hc).2⟩,r.lay.mono hm⟩,hm⟩;obtain ⟨loc,h1,h2⟩:=r.rep o ob h;refine⟨loc,h1,h2.mono hm (fun b' q e=>?_)⟩;subst e;have hl:=aG.2 ⟨o,q,ob,h1,h⟩
 exact hx.block b' (r.lt hl) (by
  simp only[akf];rintro rfl;exact hb hl)
theorem Sit.stor (hsel:Region.noSelect ops=true) (h:Sit P k n md ops wr μ0 Im0 σ0 w0 L sl al R a ρ ρc σ μ Im w) {x:Nat×Option Nat} (hx:x∈L) {s:Nat} (hxs:x.2=some s) (hr:s∈Region.ready md ops al) {Q:Exit→Act→World→Prop} {F:Act→World→Prop}
 (hF:∀w' R',wr s=true→Sit P k n md ops wr μ0 Im0 σ0 w0 L sl (al.setIfInBounds s true) R' a ρ ρc σ μ Im w'→F a w'):wpOp P ops Q s F a w:=by
 obtain ⟨e1,e2,q⟩:=h.ps x hx;generalize hm:R x.1=m at*
 have hst:=q.st
 cases hms:m.st with
 | none=>rw[hms,hxs] at e2;cases e2
 | some z=>
   obtain ⟨s',os,t,x',v⟩:=z;rw[hms] at hst;obtain rfl:s'=s:=by rw[hms,hxs] at e2;simpa using e2
   obtain ⟨hun,_,ho,hall⟩:=mem_ready.1 hr;have hst:PdSt P ops wr sl al a md (L.map (·.1)) m s' os t x' v:=hst;rw[hst.hs] at ho
   cases ho
   have hsd:m.sdone=false:=by rw[←hst.al];exact hun
   obtain ⟨e,he,hb1,hb2⟩:=hst.aft;have hai:=gtt (hall e he hb1);rw[hb2] at hai;have hdn:=q.dn
   cases hmd:m.done with
   | none=>rw[hmd] at hdn;rw[hdn.1] at hai;cases hai
   | some b=>
     rw[hmd] at hdn;obtain ⟨d1,d2,d3,d4,d5,d6⟩:=hdn;have hcur:m.cur=m.C:=by unfold Pd.cur;rw[hsd]
     rw[hcur] at d3;have hev:=KF h.ok d2;rw[hst.ptr] at hev;obtain ⟨p,hz,hn,hle⟩:=hst.sz;have hsK:=fun K'=>lP (P:=P) (t:=t) (o:=0) (K':=K') hz hn d3 (by omega) hst.one;obtain ⟨w',hrun,hw'⟩:=sX (P:=P) (K:=fun _ w'=>w'=eB w b (dv m.C 0 v.cells.toList)) (by rw[hsK]);subst hw';have hsi:s'∈bT L:=cw.2 ⟨x,hx,.inr hxs⟩;have hslt:s'<al.size:=by rw[h.as];exact Eq.get_lt hst.hs
     have hxb:Ext [b] w (eB w b (dv m.C 0 v.cells.toList)):=jr _ _ _;obtain ⟨r',mn⟩:=Rel.aside h.rel hxb d5 d6;unfold wpOp;rw[hst.hs];simp only;rw[if_pos (fE hst.gd _)];refine .inl ?_;unfold Oper.wp
     have hex:execOp a.eval os=(do Instr.storeAt t (a.eval (.tmp m.d)) (a.eval x');pure .skip):=by
      obtain ⟨d,op,ty,pos,af,g⟩:=os
      have:=hst.op
      dsimp only at this;subst this
      rfl
     rw[hex,hev,hst.ev,Sem.run_bind,hrun];simp only[Result.andThen_ok];rw[show(pure Next.skip:Sem Next).run P (eB w b (dv m.C 0 v.cells.toList))=.ok .skip (eB w b (dv m.C 0 v.cells.toList)) from rfl,Oper.upon_skip,hst.ds];refine hF _ (fun j=>if j=x.1 then{m with sdone:=true} else R j) hst.wr ?_;refine⟨h.ss,by simpa using h.as,h.ls.early hsi,h.ok,h.kl,r',h.rg.mono mn,⟨h.sq.pre,h.sq.im,h.sq.ext.trans hxb (fun c hc=>.inr (by simp at hc;omega)),h.sq.live,h.sq.fresh⟩,h.ap,h.nd,h.nx,h.ny,fun y hy=>?_,fun y hy z hz hyz c=>?_⟩
     · obtain ⟨f1,f2,p2⟩:=h.ps y hy
       by_cases hyx:y.1=x.1
       · have:=h.nd y hy x hx hyx
         subst this;rw[if_pos rfl];have hsy:s'≠m.i:=fun e=>h.nx y hy y hy (by rw[hxs,e,e1]);refine⟨e1,e2,q.hi,q.mkk,q.gd,q.ds,q.ex,q.one,q.fd,q.slf,q.rd,?_,?_⟩
         · dsimp only
           rw[hmd];refine⟨by rw[aY,if_neg (fun e=>hsy e.1)];exact d1,d2,?_,d4,d5,d6⟩
           have e9:∀dn,({m with done:=dn,sdone:=true}:Pd).cur=dv m.C 0 v.cells.toList:=fun dn=>by
            unfold Pd.cur;rw[hms]
           have e10:=e9 (some b);rw[e10];exact fR d3
         · dsimp only
           rw[hms];exact⟨hst.hs,hst.op,hst.ds,hst.gd,hst.ne,hst.ev,hst.sz,hst.one,hst.ptr,hst.alc,by rw[aY,if_pos ⟨rfl,hslt⟩],hst.wr,hst.ul,hst.rd,hst.aft⟩
       · rw[if_neg hyx]
         have hsn:s'≠(R y.1).i:=fun e=>h.nx y hy x hx (by rw[hxs,e,f1]);refine⟨f1,f2,p2.hi,p2.mkk,p2.gd,p2.ds,p2.ex,p2.one,p2.fd,p2.slf,p2.rd,?_,?_⟩
         · have hdn2:=p2.dn
           cases hmd2:(R y.1).done with
           | none=>
             rw[hmd2] at hdn2;exact⟨by rw[aY,if_neg (fun e=>hsn e.1)];exact hdn2.1,hdn2.2⟩
           | some c=>
             rw[hmd2] at hdn2;obtain ⟨g1,g2,g3,g4,g5,g6⟩:=hdn2;refine⟨by rw[aY,if_neg (fun e=>hsn e.1)];exact g1,g2,g3.ext hxb ?_,g4,g5,g6⟩;simp only[akf];rintro rfl;exact h.ds x hx y hy (fun e=>hyx e.symm) c (by rw[hm];exact hmd) hmd2
         · have hst2:=p2.st
           cases hms2:(R y.1).st with
           | none=>rw[hms2] at hst2;exact hst2
           | some z=>
             obtain ⟨s2,os2,t2,x2,v2⟩:=z;rw[hms2] at hst2;have hst2:PdSt P ops wr sl al a md (L.map (·.1)) (R y.1) s2 os2 t2 x2 v2:=hst2;have hy2:y.2=some s2:=by rw[←f2,hms2];rfl
             have hss:s'≠s2:=fun e=>hyx (by rw[h.ny x hx y hy s' hxs (by rw[hy2,e])]);exact⟨hst2.hs,hst2.op,hst2.ds,hst2.gd,hst2.ne,hst2.ev,hst2.sz,hst2.one,hst2.ptr,hst2.alc,by rw[aY,if_neg (fun e=>hss e.1)];exact hst2.al,hst2.wr,hst2.ul,hst2.rd,hst2.aft⟩
     · intro h1 h2
       have key:∀y,(if y=x.1 then({m with sdone:=true}:Pd) else R y).done=(R y).done:=fun y=>by
        split
        · rename_i e;rw[e,hm]
        · rfl
       rw[key] at h1 h2;exact h.ds y hy z hz hyz c h1 h2
theorem Sit.flt (hsel:Region.noSelect ops=true) (hd:∀(i:Nat) o,ops[i]? =some o→o.dst.all (· <n)=true) (h:Sit P k n md ops wr μ0 Im0 σ0 w0 L sl al R a ρ ρc σ μ Im w) {j:Nat} (hj:j∈bT L) (hr:j∈Region.ready md ops al) {Q:Exit→Act→World→Prop} {F:Act→World→Prop}
 (hF:∀a' w' R' ρc',(wr j=false→Ext [] w w')→Sit P k n md ops wr μ0 Im0 σ0 w0 L sl (al.setIfInBounds j true) R' a' ρ ρc' σ μ Im w'→F a' w'):wpOp P ops Q j F a w:=by
 obtain ⟨x,hx,hjx⟩:=cw.1 hj;rcases hjx with rfl | hjx
 · exact h.make hsel hd hx (mem_ready.1 hr).1 fun a' w' R' ρc' he hS=>hF a' w' R' ρc' (fun _=>he) hS
 · exact h.stor hsel hx hjx hr fun w' R' hw hS=>hF a w' R' ρc (fun h=>absurd (hw.symm.trans h) (by simp)) hS
theorem Sit.told (h:Sit P k n md ops wr μ0 Im0 σ0 w0 L sl al R a ρ ρc σ μ Im w) {x:Nat×Option Nat} (hx:x∈L) {b:Nat} (hb:(R x.1).done=some b) (hsd:∀s,x.2=some s→al.getD s true=true)
 {ob:Ob} {u:V} (hO:fA w Im (μ++[some (b,(R x.1).cur.length)]) (some (b,(R x.1).cur.length)) ob) (hu:RepV w Im (μ++[some (b,(R x.1).cur.length)]) u ((R x.1).f b)):
 Sit P k n md ops wr μ0 Im0 σ0 w0 (L.filter fun y=>y.1 !=x.1) (x.2.toList.foldl (fun s i=>s.setIfInBounds i true) (sl.setIfInBounds x.1 true)) al R a (bq ρ (R x.1).o.dst u) ρc (σ++[some ob]) (μ++[some (b,(R x.1).cur.length)]) Im w:=by
 obtain ⟨e1,e2,q⟩:=h.ps x hx;have hfil:∀{y:Nat×Option Nat},y∈L.filter (fun y=>y.1 !=x.1)↔y∈L∧y.1≠x.1:=fun{y}=>by simp[List.mem_filter]
 have hdn:=q.dn;rw[hb] at hdn;obtain ⟨d1,d2,d3,d4,d5,d6⟩:=hdn;have mn:Mono μ Im w (μ++[some (b,(R x.1).cur.length)]) Im w:=⟨akC _ _,fun _ h=>h,fun _ _=>rfl⟩;obtain ⟨r',hl'⟩:=h.rel.adopt d5 d6 hO;have hxlt:x.1<ops.size:=by rw[←e1];exact Eq.get_lt q.hi
 have hgt:∀{j:Nat},j<al.size→al.getD j true=true→al.getD j false=true:=fun{j} hj h=>by
  simpa [hj] using h
 have hids:∀j∈bT L,j∈bT (L.filter fun y=>y.1 !=x.1)∨j=x.1∨x.2=some j:=fun j hj=>by
  obtain ⟨y,hy,hjy⟩:=cw.1 hj
  by_cases hyx:y.1=x.1
  · have:=h.nd y hy x hx hyx
    subst this;exact .inr hjy
  · exact .inl (cw.2 ⟨y,hfil.2 ⟨hy,hyx⟩,hjy⟩)
 have hids':∀j∈bT (L.filter fun y=>y.1 !=x.1),j∈bT L:=fun j hj=>by
  obtain ⟨y,hy,hjy⟩:=cw.1 hj;exact cw.2 ⟨y,(hfil.1 hy).1,hjy⟩
 have hset:LsR (x.2.toList.foldl (fun s i=>s.setIfInBounds i true) (sl.setIfInBounds x.1 true)) al (bT (L.filter fun y=>y.1 !=x.1))∧(x.2.toList.foldl (fun s i=>s.setIfInBounds i true) (sl.setIfInBounds x.1 true)).size=ops.size:=by
  have hss:=h.ss;have has:=h.as
  cases hx2:x.2 with
  | none=>
    refine⟨h.ls.fin (by omega) (by omega) (hgt (by omega) (e1▸d1)) (fun j hj=>?_) hids',by simpa using hss⟩;rcases hids j hj with h1 | h1 | h1
    · exact .inl h1
    · exact .inr h1
    · rw[hx2] at h1;cases h1
  | some s=>
    have hst:=q.st
    cases hms:(R x.1).st with
    | none=>rw[hms,hx2] at e2;cases e2
    | some z=>
      obtain ⟨s',os,t,x',v⟩:=z;obtain rfl:s'=s:=by rw[hms,hx2] at e2;simpa using e2
      rw[hms] at hst;have hslt:s'<ops.size:=Eq.get_lt (PdSt.hs hst)
      have l1:LsR (sl.setIfInBounds x.1 true) al (s'::bT (L.filter fun y=>y.1 !=x.1)):=h.ls.fin (by omega) (by omega) (hgt (by omega) (e1▸d1)) (fun j hj=>by
       rcases hids j hj with h1 | h1 | h1
       · exact .inl (akJ _ h1)
       · exact .inr h1
       · rw[hx2] at h1;cases h1;exact .inl (by simp)) (fun j hj=>by
       rcases ajC.1 hj with rfl | hj
       · exact cw.2 ⟨x,hx,.inr hx2⟩
       · exact hids' j hj)
      refine⟨l1.fin (by simp;omega) (by omega) (hgt (by omega) (hsd s' hx2)) (fun j hj=>?_) (fun j hj=>akJ _ hj),by simpa using hss⟩;rcases ajC.1 hj with rfl | hj
      · exact .inr rfl
      · exact .inl hj
 have hrdm:∀{j:Nat} {z:Array Bool},j∈Region.ready md ops z→j≠x.1→(∀s,x.2=some s→j≠s)→j∈Region.ready md ops (x.2.toList.foldl (fun s i=>s.setIfInBounds i true) (z.setIfInBounds x.1 true)):=fun{j z} hj h1 h2=>by
  cases hx2:x.2 with
  | none=>exact ready_mono hj h1
  | some s=>exact ready_mono (ready_mono hj h1) (h2 s hx2)
 refine⟨hset.2,h.as,hset.1,h.ok,by simp;have:=h.kl;omega,r',?_,⟨fun i hi=>?_,h.sq.im,h.sq.ext,fun c hc=>?_,h.sq.fresh⟩,fun y hy z hz=>h.ap y (hfil.1 hy).1 z (hfil.1 hz).1,fun y hy z hz=>h.nd y (hfil.1 hy).1 z (hfil.1 hz).1,fun y hy z hz=>h.nx y (hfil.1 hy).1 z (hfil.1 hz).1,fun y hy z hz=>h.ny y (hfil.1 hy).1 z (hfil.1 hz).1,fun y hy=>?_,fun y hy z hz=>h.ds y (hfil.1 hy).1 z (hfil.1 hz).1⟩
 · rw[q.ds]
   intro t u' hu'
   show∃v,Eng.fd ρc t=some v∧_
   have hu'':tY (((R x.1).d,u)::ρ) t=some u':=hu';rw[iz] at hu''
   split at hu''
   · rename_i e
     cases hu''
     exact⟨_,by rw[←e];exact d2,hu⟩
   · obtain ⟨v,h1,h2⟩:=h.rg.mono mn t u' hu''
     exact⟨v,h1,h2⟩
 · have:=h.sq.pre i hi
   rw[←this,ajw (by have:=h.kl;omega)]
 · rcases hl' c hc with h1 | rfl
   · exact h.sq.live c h1
   · exact .inr d4
 · obtain ⟨hyL,hyx⟩:=hfil.1 hy
   obtain ⟨f1,f2,p⟩:=h.ps y hyL;obtain ⟨ap1,ap2⟩:=h.ap x hx y hyL (fun e=>hyx e.symm);obtain ⟨p1,p2,p3⟩:=Oper.apart_spec (i6 ap1 (e1▸q.hi) (f1▸p.hi))
   have hdd:(R x.1).d≠(R y.1).d:=fun e=>by
    have:=p2 _ q.ds
    rw[p.ds,e] at this;exact this rfl
   have hyx2:∀s,x.2=some s→y.1≠s:=fun s hs e=>h.nx y hyL x hx (by rw[hs,e]);refine⟨f1,f2,p.hi,p.mkk,p.gd,p.ds,p.ex,p.one,?_,p.slf,hrdm p.rd (by rw[f1];exact hyx) (fun s hs=>by rw[f1];exact hyx2 s hs),?_,?_⟩
   · rw[q.ds]
     show tY (((R x.1).d,u)::ρ) _=none;rw[Bz hdd];exact p.fd
   · have hdn2:=p.dn
     cases hmd:(R y.1).done with
     | none=>rw[hmd] at hdn2;exact hdn2
     | some c=>
       rw[hmd] at hdn2;obtain ⟨g1,g2,g3,g4,g5,g6⟩:=hdn2;refine⟨g1,g2,g3,g4,fun hc=>?_,g6⟩;rcases hl' c hc with h1 | rfl
       · exact g5 h1
       · exact h.ds x hx y hyL (fun e=>hyx e.symm) _ hb hmd
   · have hst:=p.st
     cases hms:(R y.1).st with
     | none=>rw[hms] at hst;exact hst
     | some z=>
       obtain ⟨s,os,t,x',v⟩:=z;rw[hms] at hst;have hst:PdSt P ops wr sl al a md (L.map (·.1)) (R y.1) s os t x' v:=hst;have hy2:y.2=some s:=by rw[←f2,hms];rfl
       have hsx:s≠x.1:=fun e=>h.nx x hx y hyL (by rw[hy2,e]);have hss:∀s',x.2=some s'→s≠s':=fun s' hs e=>hyx (by rw[h.ny x hx y hyL s' hs (by rw[hy2,e])]);refine⟨hst.hs,hst.op,hst.ds,hst.gd,hst.ne,hst.ev,hst.sz,hst.one,hst.ptr,hst.alc,hst.al,hst.wr,?_,?_,hst.aft⟩
       · cases hx2:x.2 with
         | none=>show(sl.setIfInBounds x.1 true).getD s true=false;rw[aY,if_neg (fun e=>hsx e.1.symm)];exact hst.ul
         | some s'=>
           show((sl.setIfInBounds x.1 true).setIfInBounds s' true).getD s true=false
           rw[aY,if_neg (fun e=>hss s' hx2 e.1.symm),aY,if_neg (fun e=>hsx e.1.symm)];exact hst.ul
       · intro e he hb
         have up:∀{j:Nat},sl.getD j false=true→(x.2.toList.foldl (fun s i=>s.setIfInBounds i true) (sl.setIfInBounds x.1 true)).getD j false=true:=fun{j} hj=>by
          cases hx2:x.2 with
          | none=>exact getD_set_true hj
          | some s'=>exact getD_set_true (getD_set_true hj)
         rcases hst.rd e he hb with h1 | h1
         · exact .inl (up h1)
         · obtain ⟨z,hz,hze⟩:=akh.1 h1
           by_cases hzx:z.1=x.1
           · left
             rw[←hze,hzx]
             have:(sl.setIfInBounds x.1 true).getD x.1 false=true:=by rw[aY,if_pos ⟨rfl,by rw[h.ss];exact hxlt⟩]
             cases hx2:x.2 with
             | none=>exact this
             | some s'=>exact getD_set_true this
           · exact .inr (akh.2 ⟨z,hfil.2 ⟨hz,hzx⟩,hze⟩)
theorem HY {t:Nat} {K:V→Prop} (hg:ed w Im μ ρ ρc) (h:j5 ρ t K):∃u v,Eng.fd ρc t=some v∧RepV w Im μ u v∧K u:=by
 unfold j5 at h
 cases hf:tY ρ t with
 | none=>rw[hf] at h;exact h.elim
 | some u=>
   rw[hf] at h;obtain ⟨v,h1,h2⟩:=hg t u hf;exact⟨u,v,h1,h2,h⟩
def bOf:Value→Option Bool
 | .bool b=>some b
 | _=>none
theorem OJ {τ:Bool} {all:Array Oper} {o:Oper} {t:Nat} {K:KR} (hok:Ok n a ρc) (hg:ed w Im μ ρ ρc) (h:gG τ P all o ρ σ t K):
 (Region.wanted o (yielded all a.tmps)=true∧∃τ,cG τ P o ρ σ t fun τ u σ'=>K τ (bq ρ o.dst u) σ')∨(Region.wanted o (yielded all a.tmps)=false∧K true (bq ρ o.dst (.tup [])) σ):=by
 unfold gG at h
 cases hgd:o.guard with
 | none=>rw[hgd] at h;exact .inl ⟨ga hgd _,τ,h⟩
 | some jw=>
   obtain ⟨j,want⟩:=jw;rw[hgd] at h;simp only at h
   cases ht:(all[j]?).bind (·.dst) with
   | none=>rw[ht] at h;exact h.elim
   | some t'=>
     rw[ht] at h;simp only at h;obtain ⟨g,gv,h1,h2,h3⟩:=HY hg h;have hget:=hok.get _ _ h1
     have hy:yielded all a.tmps j=bOf gv:=by
      unfold yielded;rw[ht];simp only[Option.bind_some,hget]
      cases gv<;>rfl
     have hwant:Region.wanted o (yielded all a.tmps)=(yielded all a.tmps j==some want):=by
      simp[Region.wanted,hgd]
     rw[hwant,hy];clear hy hget h1;unfold og at h3
     split at h3
     · cases h2
       rename_i b _
       show((some b==some want)=true∧_)∨((some b==some want)=false∧_)
       by_cases hb:b=want
       · subst hb
         rw[if_pos rfl] at h3;exact .inl ⟨by simp,_,h3⟩
       · rw[if_neg hb] at h3
         exact .inr ⟨by cases b<;>cases want<;>simp_all,h3⟩
     · cases h2 with
       | @tup _ C hn _=>exact .inr ⟨rfl,h3⟩
     · exact h3.elim
theorem xg {Q:Exit→Act→World→Prop} {i:Nat} {oi:Oper} {v:Value} (hi:ops[i]? =some oi) (hsel:∀(j:Nat) (o:Oper) cs b,ops[j]? =some o→o.op≠ .select cs b)
 (hQ:∀c a w,Q (.panic c) (a.put oi.dst v) w→Q (.panic c) a w):
 ∀(fuel:Nat) (listed:Array Bool) (a:Act) (w:World),
  (∀(j:Nat) oj,ops[j]? =some oj→j≠i→listed.getD j true=false→(∀e∈oj.after,Region.binds md e=true→e.on≠i)→oi.apart ops oj=true)→
  i∈Region.ready md ops listed→Yields P ops oi v a→
  dz P md ops Q wr fuel (listed.setIfInBounds i true) (a.put oi.dst v) w→dz P md ops Q wr (fuel+1) listed a w:=by
 intro fuel
 induction fuel with
 | zero=>
   intro listed a w _ hr hy H;refine⟨fun h=>(by rw[h] at hr;cases hr),fun j hj=>?_⟩
   by_cases hji:j=i
   · subst hji;exact(hy.yieldsIf (S:=fun _=>True)).wpOp hi trivial ⟨fun _=>Ext.refl _ _,H⟩
   · have:=ready_mono hj hji
     rw[H.1] at this
     cases this
 | succ fuel ih=>
   intro listed a w hfree hr hy H;refine⟨fun h=>(by rw[h] at hr;cases hr),fun j hj=>?_⟩
   by_cases hji:j=i
   · subst hji;exact(hy.yieldsIf (S:=fun _=>True)).wpOp hi trivial ⟨fun _=>Ext.refl _ _,H⟩
   · have h1:=H.2 j (ready_mono hj hji)
     obtain ⟨hjun,oj,hoj,hall⟩:=mem_ready.1 hj
     have hno:∀e∈oj.after,Region.binds md e=true→e.on≠i:=fun e he hb hei=>by
      have h2:=hall e he hb;rw[hei,getD_both (mem_ready.1 hr).1] at h2
      cases h2
     have hap:=hfree j oj hoj hji hjun hno;have h2:=wpOp_put hoj hap (fun cs b=>hsel i oi cs b hi) (fun cs b=>hsel j oj cs b hoj) hQ hy h1;refine wpOp_mono (fun a' w' h3=>?_) h2;obtain ⟨h4,h5,h6⟩:=h3;refine⟨h5,ih (listed.setIfInBounds j true) a' w' (fun q oq hq hqi hun hn=>?_) (ready_mono hr (Ne.symm hji)) h4 ?_⟩
     · refine hfree q oq hq hqi ?_ hn
       by_cases hjk:j=q
       · subst hjk;exact hjun
       · rw[getD_set_ne true hjk] at hun;exact hun
     · rw[alS _ _ hji]
       exact h6
theorem Cq {s:Sem Value} {v:Value} {w:World} (h:gu P (s>>=fun v=>pure (Next.value v)) w fun _ u w'=>w'=w∧u=v):(s>>=fun v=>pure (Next.value v):Sem Next).run P w=.ok (.value v) w:=by
 unfold gu runK at h;rw[Sem.run_bind] at h ⊢
 cases hr:s.run P w with
 | halt x w'=>rw[hr] at h;exact(h:False).elim
 | ok u w'=>
   rw[hr] at h;obtain ⟨e1,e2⟩:=(h:w'=w∧u=v);rw[e1,e2]
   rfl
theorem Fi {o:Oper} {v:Value} {w:World} (hok:Ok n a ρc) (hp:(match o.op with | .move _ | .assign _ | .pick .. | .binOp .. | .unOp .. | .convert .. | .slice .. | .fieldAddr .. | .field .. | .indexAddr .. | .index .. | .extract .. | .nilCheck .. | .build .. | .call {callee:=.builtin .min,.. } | .call {callee:=.builtin .max,.. }=>true | _=>false)=true) (h:∀k:Kv,oT true P o ρc w k=k true v w):(execOp a.eval o).run P w=.ok (.value v) w:=by
 have h:=(h fun _ u w'=>w'=w∧u=v).mpr ⟨rfl,rfl⟩;obtain ⟨d,op,ty,pos,af,g⟩:=o
 cases op with
 | move x=>
   have h1:=an hok (K:=fun u=>w=w∧u=v) h;show Result.ok (Next.value (a.eval x)) w=_;rw[h1.2]
 | assign x=>
   have h1:=an hok (K:=fun u=>w=w∧u=v) h;show Result.ok (Next.value (a.eval x)) w=_;rw[h1.2]
 | pick | binOp | unOp | convert | slice | fieldAddr | field | indexAddr | index | extract | nilCheck | build=>exact ug hok trivial h
 | call c=>
   obtain ⟨callee,args,ats⟩:=c
   cases callee with
   | builtin b=>
     cases b with
     | min=>
       have h1:=cj hok (xs:=args.toList) (K:=fun us=>gu P (Builtin.min_ ats ty us.toArray>>=fun v=>pure (Next.value v)) w fun _ u w'=>w'=w∧u=v) h;have e:(args.toList.map a.eval).toArray=args.map a.eval:=Array.ext' (by rw[aku]);rw[e] at h1;exact Cq h1
     | max=>
       have h1:=cj hok (xs:=args.toList) (K:=fun us=>gu P (Builtin.max_ ats ty us.toArray>>=fun v=>pure (Next.value v)) w fun _ u w'=>w'=w∧u=v) h;have e:(args.toList.map a.eval).toArray=args.map a.eval:=Array.ext' (by rw[aku]);rw[e] at h1;exact Cq h1
     | _=>cases hp
   | _=>cases hp
 | _=>cases hp
theorem M6 {o:Oper} {C C':List Value} {ty ty':TypeId} {f f':Nat→Value} (w:World) (h1:∀w',(execOp a.eval o).run P w'=.ok (.value (f w'.heap.size)) (w'.alloc (.cells C.toArray ty)))
 (h2:∀w',(execOp a.eval o).run P w'=.ok (.value (f' w'.heap.size)) (w'.alloc (.cells C'.toArray ty'))):C=C'∧∀b,f b=f' b:=by
 have e:=fun w'=>(h1 w').symm.trans (h2 w');constructor
 · have:=e w
   injection this with e1 e2
   have:=D5 e2
   injection this with e3 e4;simpa using congrArg Array.toList e3
 · intro b
   have:=e {w with heap:=Array.replicate b (.cells #[] 0 (0,0))}
   injection this with e1 e2;injection e1 with e3;simpa using e3
theorem FK {τ:Bool} {os q:Oper} {d:Nat} {t t0:TypeId} {x':Operand} {G:Bool→Vg→St→Prop} (hq:q.op=.alloc t0) (hqd:q.dst=some d) (hop:os.op=.store t (.tmp d) x') (hne:x'≠ .tmp d) (rel:Rel μ Im σ w) (rg:ed w Im μ ρ ρc) (hok:Ok n a ρc)
 (h:eI τ true P q ρ σ fun τ u σ1=>eI τ false P os (bq ρ q.dst u) σ1 fun τ _ σ2=>G τ (bq ρ q.dst u) σ2):
 ∃(C:List Value) (p:Nat) (c:List V),gE P t0=some C∧(∀z∈C,bF z=true)∧cS P t=some (p+1)∧(a.eval x').cells.toList.length=p+1∧p+1≤C.length∧(∀z∈(a.eval x').cells.toList,bF z=true)∧bh w Im μ c (a.eval x').cells.toList∧
  G true ((d,.ref σ.length 0 0 0)::ρ) (σ++[some (.cells ((C.map V.lit).take 0++c++(C.map V.lit).drop (0+c.length)))])∧∀(w':World) (k:Kv),oT true P q ρc w' k=k true (.pointer (some ⟨w'.heap.size,0,none⟩)) (w'.alloc (.cells C.toArray t0)):=by
 obtain ⟨dq,opq,tyq,posq,afq,gq⟩:=q;obtain ⟨do_,opo,tyo,poso,afo,go⟩:=os;dsimp only at hq hqd hop h;subst hq hqd hop;have h:dJ P t0 σ fun τ u σ1=>eI τ false P ⟨do_,.store t (.tmp d) x',tyo,poso,afo,go⟩ (bq ρ (some d) u) σ1 fun τ _ σ2=>G τ (bq ρ (some d) u) σ2:=h;unfold dJ at h
 cases hz:gE P t0 with
 | none=>rw[hz] at h;exact h.elim
 | some C=>
   rw[hz] at h;obtain ⟨h1,h2⟩:=eV.1 h;have h2:cq ((d,.ref σ.length 0 0 0)::ρ) (.tmp d) fun u=>cq ((d,.ref σ.length 0 0 0)::ρ) x' fun v=>fO P t u v (σ++[some (.cells (C.map V.lit))]) fun τ σ2=>G τ ((d,.ref σ.length 0 0 0)::ρ) σ2:=h2
   have h3:cq ((d,.ref σ.length 0 0 0)::ρ) x' fun v=>fO P t (.ref σ.length 0 0 0) v (σ++[some (.cells (C.map V.lit))]) fun τ σ2=>G τ ((d,.ref σ.length 0 0 0)::ρ) σ2:=by
    have e0:tY ((d,V.ref σ.length 0 0 0)::ρ) d=some (.ref σ.length 0 0 0):=by rw[iz,if_pos rfl]
    have e1:∀F:V→Prop,cq ((d,V.ref σ.length 0 0 0)::ρ) (.tmp d) F=F (.ref σ.length 0 0 0):=fun F=>by
     show j5 _ d F=_;unfold j5;rw[e0]
    rw[e1] at h2;exact h2
   have h4:cq ρ x' fun v=>fO P t (.ref σ.length 0 0 0) v (σ++[some (.cells (C.map V.lit))]) fun τ σ2=>G τ ((d,.ref σ.length 0 0 0)::ρ) σ2:=by
    cases x' with
    | tmp y=>
      have hy:d≠y:=fun e=>hne (by rw[e])
      have e1:∀F:V→Prop,cq ((d,V.ref σ.length 0 0 0)::ρ) (.tmp y) F=cq ρ (.tmp y) F:=fun F=>by
       show j5 _ y F=j5 _ y F;unfold j5;rw[Bz hy]
      rw[e1] at h3;exact h3
    | const v=>exact h3
    | global g=>exact h3
    | func f=>exact h3
   obtain ⟨u',v',g1,g2,g3⟩:=aU rg h4
   have hev:a.eval x'=v':=by
    have:=an hok (x:=x') (K:=fun z=>z=v') (by rw[g3])
    exact this
   unfold fO at g2
   split at g2
   · rename_i p hp
     obtain ⟨c,hc,hco,g4⟩:=gV g1 g2;obtain ⟨hcn,g5⟩:=cJ g4;have hcl:v'.cells.toList.length=p+1:=by rw[hc.1,hcn]
     unfold iK at g5;simp only at g5;obtain ⟨ob,hob,g6⟩:=cW g5;rw[bJ,if_neg (by omega),if_pos rfl] at hob
     cases hob
     unfold NP at g6;simp only at g6;obtain ⟨g7,g8⟩:=lB g6;unfold uG at g7 g8;simp only[akK,ajU,ajl] at g7 g8;have e:∀y:Option Ob,(σ++[some (Ob.cells (C.map V.lit))]).set σ.length y=σ++[y]:=fun y=>by simp
     rw[e] at g8;refine⟨C,p,c,rfl,gM h1,hp,by rw[hev];exact hcl,by omega,by rw[hev];exact hco,by rw[hev];exact hc,by rw[ajU];exact g8,fun w' k=>oE hz⟩
   · exact g2.elim
theorem xJ {K:KR} {Kc:Kr} {fuel:Nat} {τ:Bool} (tr:TrK k μ0 Im0 σ0 w0 K Kc) (hs:bS md ops wr sl L []=true) (hS:Sit P k n md ops wr μ0 Im0 σ0 w0 L sl al R a ρ ρc σ μ Im w) (h:bY τ P ops [] ρ σ K):dz P md ops (nV n Kc) wr fuel al a w:=by
 unfold bS at hs;simp only[ajs,List.isEmpty_iff] at hs;obtain ⟨rfl,hr⟩:=hs
 have hr':Region.ready md ops al=[]:=by
  cases hra:Region.ready md ops al with
  | nil=>rfl
  | cons j l=>
    have hj:j∈Region.ready md ops al:=by rw[hra];simp
    have:j∈Region.ready md ops sl:=kn hj (fun q hq=>(hS.ls.a3 q hq).resolve_right (by simp[bT])) (hS.ls.a2 j (mem_ready.1 hj).1)
    rw[hr] at this
    cases this
 exact yO hr' ⟨rfl,ρc,hS.ok,tr ρ σ μ Im w ρc hS.rel hS.sq hS.rg hS.kl h⟩ fuel
theorem Sit.flook (hS:Sit P k n md ops wr μ0 Im0 σ0 w0 L sl al R a ρ ρc σ μ Im w) {j:Nat} (hj:j∈Region.ready md ops al) {l:List Nat} (hl:∀q,q∈bT L→al.getD q false=true→q∈l) (hjl:j ∉ l):j∈Region.ready md ops (pc sl l):=by
 refine kn hj (fun q hq=>?_) (Hi _ _ _ (hS.ls.a2 j (mem_ready.1 hj).1) hjl);refine AJ _ _ _ ?_;rcases hS.ls.a3 q hq with h1 | h1
 · exact .inl h1
 · refine .inr ⟨hl q h1 hq,?_⟩
   have:q<al.size:=by
    rcases akT q al.size with h2 | h2
    · exact h2
    · simp[h2] at hq
   have:=hS.ss
   have:=hS.as
   omega
theorem qt {τ:Bool} {all:Array Oper} {rm:Nat} {ρ:Vg} {σ:St} {kk:Bool→Nat→Vg→St→Prop} {j t q:Nat}:∀{S:List (Nat×Nat×Nat)},EL τ P all rm ρ σ kk S→(j,t,q)∈S→Ng rm j q=true→bR all.toList j fun o=>cG τ P o ρ σ (t-10) fun τ u σ'=>kk τ j (bq ρ o.dst u) σ'
 | [],_,hm,_=>by cases hm
 | (j',t',q')::S,h,hm,hb=>by
   unfold EL at h;rcases ajC.1 hm with e | hm
   · cases e
     rw[hb] at h;exact h.1
   · split at h
     · exact qt h.2 hm hb
     · exact qt h hm hb
theorem Ep {S:List (Nat×Nat×Nat)} {goal:Array Bool} {F:KR} {Kc:Kr} (hsel:Region.noSelect ops=true) (hd:∀(i:Nat) o,ops[i]? =some o→o.dst.all (· <n)=true) {m0:Nat}
 (leaf:∀(al:Array Bool) (fuel:Nat) (τ:Bool) (a:Act) (ρ:Vg) (ρc:Rg) (σ:St) (μ:Mu) (Im:Nat→Prop) (w:World),E7 al≤m0→E7 al≤fuel→Sit P k n md ops wr μ0 Im0 σ0 w0 [] goal al R a ρ ρc σ μ Im w→F τ ρ σ→dz P md ops (nV n Kc) wr fuel al a w):
 ∀(nn:Nat) (sl al:Array Bool) (rm fuel:Nat) (τ:Bool) (a:Act) (ρ:Vg) (ρc:Rg) (σ:St) (μ:Mu) (Im:Nat→Prop) (w:World),
  yR md ops wr S goal nn sl rm=true→E7 al≤m0→E7 al≤fuel→Sit P k n md ops wr μ0 Im0 σ0 w0 [] sl al R a ρ ρc σ μ Im w→bB P ops S nn rm τ ρ σ F→dz P md ops (nV n Kc) wr fuel al a w:=by
 intro nn
 induction nn with
 | zero=>
   intro sl al rm fuel τ a ρ ρc σ μ Im w hc hm hf hS h
   have e:sl=goal:=by
    unfold yR at hc;exact eq_of_beq hc
   subst e;exact leaf al fuel τ a ρ ρc σ μ Im w hm hf hS h
 | succ nn ih=>
   intro sl al rm fuel τ a ρ ρc σ μ Im w hc hm hf hS h;unfold yR at hc;rw[ajs] at hc;obtain ⟨hne,hall⟩:=hc;have hall:=aj4.1 hall;have hni:∀j:Nat,j ∉ bT []:=fun j=>by simp[bT]
   have nap:∀j:Nat,∀l∈bT [],uk ops j l=true:=fun j l hl=>absurd hl (hni l);have up:∀{j:Nat},j∈Region.ready md ops sl→j∈Region.ready md ops al:=fun{j} hj=>kn hj hS.ls.a1 (hS.ls.a4 _ (mem_ready.1 hj).1 (hni _));have dn:∀{j:Nat},j∈Region.ready md ops al→j∈Region.ready md ops sl:=fun{j} hj=>kn hj (fun q hq=>(hS.ls.a3 q hq).resolve_right (hni q)) (hS.ls.a2 _ (mem_ready.1 hj).1)
   obtain ⟨j0,hj0⟩:∃j,j∈Region.ready md ops sl:=by
    cases hr:Region.ready md ops sl with
    | nil=>rw[hr] at hne;cases hne
    | cons x l=>exact⟨x,by simp⟩
   have hj0:=up hj0;have hu0:=eP (mem_ready.1 hj0).1;obtain ⟨fuel',rfl⟩:∃f,fuel=f+1:=⟨fuel-1,by omega⟩;refine⟨fun h0=>(by rw[h0] at hj0;cases hj0),fun j hj=>?_⟩;have hx:=hall j (dn hj);rw[ajs,ajs] at hx;obtain ⟨⟨hng,hany⟩,hc'⟩:=hx;obtain ⟨⟨j',t,q⟩,hxS,hx⟩:=List.any_eq_true.1 hany;rw[ajs,ajs] at hx;obtain ⟨⟨hjj,hb⟩,ht⟩:=hx;have hjj:j'=j:=by simpa using hjj
   subst hjj;obtain ⟨o,ho,hrun⟩:=eL (qt (h:EL τ P ops rm ρ σ (fun τ j ρ' σ'=>bB P ops S nn (rm-2^j) τ ρ' σ' F) S) hxS hb);have ho:ops[j']? =some o:=by simpa using ho
   have gd:o.guard=none:=by
    unfold ngG at hng;rw[ho] at hng;simpa using hng
   have hu:=eP (mem_ready.1 hj).1
   have nxt:∀{v:Value} {w':World} {u:V} {σ':St} {μ':Mu} {Im':Nat→Prop},Rel μ' Im' σ' w'→Stp μ Im σ w μ' Im' σ' w'→RepV w' Im' μ' u v→bB P ops S nn (rm-2^j') true (bq ρ o.dst u) σ' F→dz P md ops (nV n Kc) wr fuel' (al.setIfInBounds j' true) (a.put o.dst v) w':=fun{v w' u σ' μ' Im'} r' s' hv hK=>
    ih _ _ _ fuel' true _ _ _ σ' μ' Im' w' hc' (by omega) (by omega) (hS.step hsel ho (hd _ _ ho) (nap _) (hni _) r' s' hv) hK
   unfold wpOp;rw[ho];simp only;rw[if_pos (ga gd _)];refine .inl ?_;have ht:t=11∨(t=12∧wr j'=true):=by simpa using ht
   rcases ht with rfl | ⟨rfl,hwr⟩
   · have hrun:eI τ true P o ρ σ fun τ u σ'=>bB P ops S nn (rm-2^j') τ (bq ρ o.dst u) σ' F:=hrun
     exact fg (τ:=true) hS.ok (jt hS.rel hS.rg hrun (fun _ v w'=>Ext [] w w'∧dz P md ops (nV n Kc) wr fuel' (al.setIfInBounds j' true) (a.put o.dst v) w') fun v w' u σ' μ' Im' r' s' he hv hK=>⟨he rfl,nxt r' s' hv hK⟩) fun v w' ⟨he,hk⟩=>⟨fun _=>he,hk⟩
   · have hrun:eI τ false P o ρ σ fun τ u σ'=>bB P ops S nn (rm-2^j') τ (bq ρ o.dst u) σ' F:=hrun
     exact fg (τ:=true) hS.ok (jt hS.rel hS.rg hrun (fun _ v w'=>dz P md ops (nV n Kc) wr fuel' (al.setIfInBounds j' true) (a.put o.dst v) w') fun v w' u σ' μ' Im' r' s' he hv hK=>nxt r' s' hv hK) fun v w' hk=>⟨fun h=>absurd (hwr.symm.trans h) (by simp),hk⟩
set_option maxHeartbeats 2000000 in
theorem At {K:KR} {Kc:Kr} (hsel:Region.noSelect ops=true) (hd:∀(i:Nat) o,ops[i]? =some o→o.dst.all (· <n)=true) (tr:TrK k μ0 Im0 σ0 w0 K Kc):
 ∀(m:Nat) (S:List (Nat×Nat×Nat)) (L:List (Nat×Option Nat)) (sl al:Array Bool) (R:Nat→Pd) (fuel:Nat) (τ:Bool) (a:Act) (ρ:Vg) (ρc:Rg) (σ:St) (μ:Mu) (Im:Nat→Prop) (w:World),
  S.length+E7 al≤m→E7 al≤fuel→bS md ops wr sl L S=true→Sit P k n md ops wr μ0 Im0 σ0 w0 L sl al R a ρ ρc σ μ Im w→bY τ P ops S ρ σ K→dz P md ops (nV n Kc) wr fuel al a w:=by
 intro m
 induction m with
 | zero=>
   intro S L sl al R fuel τ a ρ ρc σ μ Im w hm hf hs hS h
   cases S with
   | nil=>exact xJ tr hs hS h
   | cons x S=>simp at hm
 | succ m ih=>
   intro S L sl al R fuel τ a ρ ρc σ μ Im w hm hf hs hS h
   cases S with
   | nil=>exact xJ tr hs hS h
   | cons x r=>
     obtain ⟨i,t,p⟩:=x;simp only[ajr] at hm
     have early:∀{j:Nat} {fuel':Nat},fuel=fuel'+1→j∈Region.ready md ops al→j∈bT L→wpOp P ops (nV n Kc) j (fun a' w'=>(wr j=false→Ext [] w w')∧dz P md ops (nV n Kc) wr fuel' (al.setIfInBounds j true) a' w') a w:=fun{j fuel'} hfu hj hji=>by
      have hu:=eP (mem_ready.1 hj).1;exact hS.flt hsel hd hji hj fun a' w' R' ρc' he hS'=>⟨he,ih ((i,t,p)::r) L sl _ R' fuel' τ a' ρ ρc' σ μ Im w' (by simp only[ajr];omega) (by omega) hs hS' h⟩
     have fu:∀{j:Nat},j∈Region.ready md ops al→∃fuel',fuel=fuel'+1:=fun{j} hj=>⟨fuel-1,by have:=eP (mem_ready.1 hj).1;omega⟩;have up:∀{j:Nat},j∈Region.ready md ops sl→j ∉ bT L→j∈Region.ready md ops al:=fun hj hn=>kn hj hS.ls.a1 (hS.ls.a4 _ (mem_ready.1 hj).1 hn);have cont:∀{l:List Nat} {j:Nat},l.contains j=true↔j∈l:=fun{l j}=>al8
     have ncont:∀{l:List Nat} {j:Nat},(!l.contains j)=true→j ∉ l:=fun{l j} h hj=>by
      rw[cont.2 hj] at h;cases h
     have one:∀{o:Oper} (t':Nat),(t'=1∨(t'=2∧wr i=true))→ops[i]? =some o→i∈Region.ready md ops sl→Region.ready md ops (pc sl (bT L))=[i]→(∀l∈bT L,uk ops i l=true)→bS md ops wr (sl.setIfInBounds i true) L r=true→gG τ P ops o ρ σ t' (fun τ ρ' σ'=>bY τ P ops r ρ' σ' K)→dz P md ops (nV n Kc) wr fuel al a w:=by
      intro o t' ht' ho hrs heq hap hs' hstep
      have hni:i ∉ bT L:=fun hin=>by
       have h1:i∈Region.ready md ops (pc sl (bT L)):=by rw[heq];simp
       have h2:=AJ (bT L) sl i (.inr ⟨hin,by have:=P5 hrs;have:=hS.ss;omega⟩);have h3:=(mem_ready.1 h1).1;rw[gtt h2] at h3
       cases h3
      have hra:=up hrs hni;obtain ⟨fuel',rfl⟩:=fu hra;refine⟨fun h0=>(by rw[h0] at hra;cases hra),fun j hj=>?_⟩
      by_cases hji:j∈bT L
      · exact early rfl hj hji
      · have h1:=hS.flook hj (l:=bT L) (fun q h _=>h) hji
        rw[heq] at h1;obtain rfl:=akf.1 h1;have hu:=eP (mem_ready.1 hra).1
        have nxt:∀{v:Value} {w':World} {u:V} {σ':St} {μ':Mu} {Im':Nat→Prop},Rel μ' Im' σ' w'→Stp μ Im σ w μ' Im' σ' w'→RepV w' Im' μ' u v→bY true P ops r (bq ρ o.dst u) σ' K→dz P md ops (nV n Kc) wr fuel' (al.setIfInBounds j true) (a.put o.dst v) w':=fun{v w' u σ' μ' Im'} r' s' hv hK=>
         ih r L _ _ R fuel' true _ _ _ σ' μ' Im' w' (by omega) (by omega) hs' (hS.step hsel ho (hd _ _ ho) hap hni r' s' hv) hK
        unfold wpOp;rw[ho];simp only;rcases OJ hS.ok hS.rg hstep with⟨hw,τ',hrun⟩ | ⟨hw,hK⟩
        · rw[if_pos hw]
          refine .inl ?_;rcases ht' with rfl | ⟨rfl,hwr⟩
          · have hrun:eI τ' true P o ρ σ fun τ u σ'=>bY τ P ops r (bq ρ o.dst u) σ' K:=hrun
            exact fg (τ:=true) hS.ok (jt hS.rel hS.rg hrun (fun _ v w'=>Ext [] w w'∧dz P md ops (nV n Kc) wr fuel' (al.setIfInBounds j true) (a.put o.dst v) w') fun v w' u σ' μ' Im' r' s' he hv hK=>⟨he rfl,nxt r' s' hv hK⟩) fun v w' ⟨he,hk⟩=>⟨fun _=>he,hk⟩
          · have hrun:eI τ' false P o ρ σ fun τ u σ'=>bY τ P ops r (bq ρ o.dst u) σ' K:=hrun
            exact fg (τ:=true) hS.ok (jt hS.rel hS.rg hrun (fun _ v w'=>dz P md ops (nV n Kc) wr fuel' (al.setIfInBounds j true) (a.put o.dst v) w') fun v w' u σ' μ' Im' r' s' he hv hK=>nxt r' s' hv hK) fun v w' hk=>⟨fun h=>absurd (hwr.symm.trans h) (by simp),hk⟩
        · rw[if_neg (by rw[hw];simp)]
          exact⟨fun _=>Ext.refl _ _,nxt hS.rel (Stp.refl _ _ _ _) jf hK⟩
     match t,hs,h with
     | 0,hs,h=>
       unfold bS at hs;simp only[ajs] at hs;obtain ⟨⟨⟨⟨hr,hni⟩,hfr⟩,hap⟩,hs⟩:=hs;have hrs:=cont.1 hr;have hni:=ncont hni;have hap:=aj4.1 hap;have hra:=up hrs hni;obtain ⟨fuel',rfl⟩:=fu hra;have hu:=eP (mem_ready.1 hra).1;obtain ⟨o,ho,h⟩:=eL (h:bR ops.toList i fun o=>gG τ P ops o ρ σ 0 fun τ ρ' σ'=>bY τ P ops r ρ' σ' K);have ho:ops[i]? =some o:=by simpa using ho
       obtain ⟨D,hD1,hD2,hD3⟩:=z7 ho hfr;have hun:=getD_both (mem_ready.1 hrs).1
       have hmk:∀x∈L,D x.1=false:=fun x hx=>by
        cases hDx:D x.1 with
        | false=>rfl
        | true=>
          obtain ⟨e1,_,q⟩:=hS.ps x hx;rw[←e1] at hDx;obtain ⟨e,he,hb,hor⟩:=hD1 _ _ q.hi hDx;obtain ⟨_,o',ho',hall⟩:=mem_ready.1 q.rd;rw[q.hi] at ho'
          cases ho'
          have h2:=hall e he hb;rcases hor with hor | hor
          · rw[hor,hun] at h2;cases h2
          · rw[hD2 _ hor] at h2;cases h2
       have hD2':∀j,D j=true→al.getD j false=false:=fun j hDj=>by
        cases hx:al.getD j false with
        | false=>rfl
        | true=>
          rcases hS.ls.a3 j hx with h1 | h1
          · rw[hD2 j hDj] at h1;cases h1
          · obtain ⟨x,hxL,hjx⟩:=cw.1 h1
            rcases hjx with rfl | hjx
            · rw[hmk x hxL] at hDj;cases hDj
            · obtain ⟨e1,e2,q⟩:=hS.ps x hxL
              have hst:=q.st
              cases hms:(R x.1).st with
              | none=>rw[hms,hjx] at e2;cases e2
              | some z=>
                obtain ⟨s',os,t',x',v⟩:=z;obtain rfl:s'=j:=by rw[hms,hjx] at e2;simpa using e2
                rw[hms] at hst;have hst:PdSt P ops wr sl al a md (L.map (·.1)) (R x.1) s' os t' x' v:=hst;obtain ⟨e,he,hb,hor⟩:=hD1 _ _ hst.hs hDj;rcases hst.rd e he hb with h2 | h2
                · rcases hor with hor | hor
                  · rw[hor,hun] at h2;cases h2
                  · rw[hD2 _ hor] at h2;cases h2
                · obtain ⟨z,hz,hze⟩:=akh.1 h2
                  rcases hor with hor | hor
                  · exact absurd (cw.2 ⟨z,hz,.inl (by rw[hze,hor])⟩) hni
                  · rw[←hze,hmk z hz] at hor;cases hor
       have hD3':∀(j:Nat) oj,ops[j]? =some oj→j≠i→al.getD j true=false→D j=false→o.apart ops oj=true∧wr j=false:=fun j oj h1 h2 h3 h4=>hD3 j oj h1 h2 (hS.ls.a2 j h3) h4
       refine(?_:∃u v,YieldsIf P ops (Ext [] w) o v a∧RepV w Im μ u v∧bY true P ops r (bq ρ o.dst u) σ K).elim fun u ⟨v,hy,hv,hK⟩=>
        vY ho (Region.noSelect_spec hsel) (fun c a w hq=>by cases hq.1) hD1 fuel' al a w hD2' hD3' hra hy (ih r L _ _ R fuel' true _ _ _ σ μ Im w (by omega) (by omega) hs (hS.step hsel ho (hd _ _ ho) hap hni hS.rel (Stp.refl _ _ _ _) hv) hK)
       rcases OJ hS.ok hS.rg h with⟨hw,τ',hrun⟩ | ⟨hw,hK⟩
       · have hm':=BB (kk:=fun _ v=>∃u,RepV w Im μ u v∧bY true P ops r (bq ρ o.dst u) σ K) hS.rel hS.rg (hrun:na τ' P o ρ σ _) fun u v hv hK=>⟨u,hv,hK⟩
         obtain ⟨v,h1,u,h2,h3⟩:=D3 hS.ok hm';exact⟨u,v,.inl ⟨hw,h1⟩,h2,h3⟩
       · exact⟨_,_,.inr ⟨hw,rfl⟩,jf,hK⟩
     | 1,hs,h=>
       unfold bS at hs;simp only[ajs,beq_iff_eq] at hs;obtain ⟨⟨⟨hr,heq⟩,hap⟩,hs⟩:=hs;obtain ⟨o,ho,h⟩:=eL (h:bR ops.toList i fun o=>gG τ P ops o ρ σ 1 fun τ ρ' σ'=>bY τ P ops r ρ' σ' K);exact one 1 (.inl rfl) (by simpa using ho) (cont.1 hr) heq (aj4.1 hap) hs h
     | 2,hs,h=>
       unfold bS at hs;simp only[ajs,beq_iff_eq] at hs;obtain ⟨⟨⟨⟨hr,heq⟩,hap⟩,hwr⟩,hs⟩:=hs;obtain ⟨o,ho,h⟩:=eL (h:bR ops.toList i fun o=>gG τ P ops o ρ σ 2 fun τ ρ' σ'=>bY τ P ops r ρ' σ' K);exact one 2 (.inr ⟨rfl,hwr⟩) (by simpa using ho) (cont.1 hr) heq (aj4.1 hap) hs h
     | 3,hs,h=>
       unfold bS at hs;simp only[ajs] at hs;obtain ⟨⟨hx,hal⟩,hs⟩:=hs;have hx:((i,none):Nat×Option Nat)∈L:=al8.1 hx;obtain ⟨o,ho,h⟩:=eL (h:bR ops.toList i fun o=>eI τ true P o ρ σ fun τ u σ'=>bY τ P ops r (bq ρ o.dst u) σ' K);have ho:ops[i]? =some o:=by simpa using ho
       obtain ⟨e1,e2,q⟩:=hS.ps _ hx;dsimp only at e1 e2 q;have hqo:=q.hi;rw[e1,ho] at hqo;obtain rfl:=Option.some.inj hqo
       cases hdn:(R i).done with
       | none=>
         have hdn':=q.dn;rw[hdn] at hdn';have hra:i∈Region.ready md ops al:=kn (e1▸q.rd) hS.ls.a1 (by have:=hdn'.1;rw[e1] at this;exact this);obtain ⟨fuel',rfl⟩:=fu hra;refine⟨fun h0=>(by rw[h0] at hra;cases hra),fun j hj=>?_⟩
         by_cases hji:j∈bT L
         · exact early rfl hj hji
         · have h1:=hS.flook hj (l:=bT (L.filter fun x=>x.1 !=i)) (fun q' hq' ha=>by
            obtain ⟨x,hxL,hqx⟩:=cw.1 hq'
            by_cases hxi:x.1=i
            · have:=hS.nd x hxL _ hx hxi
              subst this;rcases hqx with rfl | hqx
              · have h1:=hdn'.1
                have h2:=gtt ha;rw[e1] at h1;rw[h1] at h2
                cases h2
              · cases hqx
            · exact cw.2 ⟨x,by simp[hxL,hxi],hqx⟩) (fun hin=>by
            obtain ⟨x,hxL,hqx⟩:=cw.1 hin;exact hji (cw.2 ⟨x,(List.mem_filter.1 hxL).1,hqx⟩))
           exact absurd (cont.1 (aj4.1 hal j h1)) hji
       | some b=>
         have hst:=q.st
         have hsn:(R i).st=none:=by
          cases hms:(R i).st with
          | none=>rfl
          | some z=>rw[hms] at e2;cases e2
         rw[hsn] at hst;have hcur:(R i).cur=(R i).C:=by unfold Pd.cur;rw[hst]
         have hdn':=q.dn;rw[hdn] at hdn';obtain ⟨d1,d2,d3,d4,d5,d6⟩:=hdn';obtain ⟨ob,C,ty,u,f,hrun,hK,hone,hrep⟩:=GZ q.mkk hS.rel hS.rg h;obtain ⟨hC,hff⟩:=M6 w q.ex (fun w'=>Di q.mkk hS.ok (hrun w'));subst hC;rw[hcur] at d3;obtain ⟨hO,hu⟩:=hrep w b ⟨akC _ _,fun _ h=>h,fun _ _=>rfl⟩ d3;have hT:=hS.told hx hdn (fun s hs=>by cases hs) (ob:=ob) (u:=u) (by rw[hcur];exact hO) (by rw[hcur,hff];exact hu);exact ih r _ _ _ R fuel true a _ ρc _ _ Im w (by omega) hf hs hT hK
     | 4,hs,h=>
       unfold bS at hs;simp only[ajs] at hs;obtain ⟨⟨⟨⟨hr,hni⟩,hmk⟩,hap⟩,hs⟩:=hs;have hrs:=cont.1 hr;have hni:=ncont hni;have hap:=aj4.1 hap;obtain ⟨o,ho,h⟩:=eL (h:bR ops.toList i fun o=>NR ρ o.dst (eI τ true P o ρ σ fun τ _ _=>bY τ P ops r ρ σ K));have ho:ops[i]? =some o:=by simpa using ho
       unfold mkG at hmk;rw[ho] at hmk;simp only[ajs] at hmk;obtain ⟨⟨hm1,hm2⟩,hm3⟩:=hmk
       cases hdst:o.dst with
       | none=>rw[hdst] at hm3;cases hm3
       | some d=>
         rw[hdst] at hm3 h;have hslf:d ∉ o.looksAt ops:=ncont hm3;unfold NR at h;simp only at h
         cases hfd:tY ρ d with
         | some _=>rw[hfd] at h;exact h.elim
         | none=>
           rw[hfd] at h;obtain ⟨ob,C,ty,u,f,hrun,hK,hone,hrep⟩:=GZ hm1 hS.rel hS.rg h;have hidc:∀{j},j∈bT ((i,none)::L)↔j=i∨j∈bT L:=fun{j}=>by simp[bT]
           have hne:∀x∈L,x.1≠i:=fun x hx e=>hni (cw.2 ⟨x,hx,.inl e.symm⟩);have hne2:∀x∈L,x.2≠some i:=fun x hx e=>hni (cw.2 ⟨x,hx,.inr e⟩);refine ih r ((i,none)::L) sl al (fun j=>if j=i then⟨i,d,o,C,ty,f,none,none,false⟩ else R j) fuel true a ρ ρc σ μ Im w (by omega) hf hs ⟨hS.ss,hS.as,hS.ls.more (fun j hj=>hidc.2 (.inr hj)),hS.ok,hS.kl,hS.rel,hS.rg,hS.sq,fun x hx y hy hxy=>?_,fun x hx y hy hxy=>?_,fun x hx y hy=>?_,fun x hx y hy s h1 h2=>?_,fun x hx=>?_,fun x hx y hy hxy b h1 h2=>?_⟩ hK
           · rcases ajC.1 hx with rfl | hx
             · rcases ajC.1 hy with rfl | hy
               · exact absurd rfl hxy
               · exact⟨hap _ (cw.2 ⟨y,hy,.inl rfl⟩),fun s hs=>hap _ (cw.2 ⟨y,hy,.inr hs⟩)⟩
             · rcases ajC.1 hy with rfl | hy
               · exact⟨Jv (hap _ (cw.2 ⟨x,hx,.inl rfl⟩)),fun s hs=>by cases hs⟩
               · exact hS.ap x hx y hy hxy
           · rcases ajC.1 hx with rfl | hx
             · rcases ajC.1 hy with rfl | hy
               · rfl
               · exact absurd hxy.symm (hne y hy)
             · rcases ajC.1 hy with rfl | hy
               · exact absurd hxy (hne x hx)
               · exact hS.nd x hx y hy hxy
           · rcases ajC.1 hy with rfl | hy
             · exact fun h=>by cases h
             · rcases ajC.1 hx with rfl | hx
               · exact hne2 y hy
               · exact hS.nx x hx y hy
           · rcases ajC.1 hx with rfl | hx
             · cases h1
             · rcases ajC.1 hy with rfl | hy
               · cases h2
               · exact hS.ny x hx y hy s h1 h2
           · rcases ajC.1 hx with rfl | hx
             · rw[if_pos rfl]
               exact⟨rfl,rfl,ho,hm1,by simpa using hm2,hdst,fun w'=>Di hm1 hS.ok (hrun w'),hone,hfd,hslf,hrs,⟨hS.ls.a4 i (mem_ready.1 hrs).1 hni,rfl⟩,rfl⟩
             · rw[if_neg (hne x hx)]
               obtain ⟨f1,f2,f3⟩:=hS.ps x hx;exact⟨f1,f2,f3.more fun j hj=>by simp[hj]⟩
           · rcases ajC.1 hx with rfl | hx
             · rw[if_pos rfl] at h1;cases h1
             · rw[if_neg (hne x hx)] at h1
               rcases ajC.1 hy with rfl | hy
               · rw[if_pos rfl] at h2;cases h2
               · rw[if_neg (hne y hy)] at h2
                 exact hS.ds x hx y hy hxy b h1 h2
     | 5,hs,h=>
       unfold bS at hs;simp only[ajs] at hs;obtain ⟨⟨⟨⟨hr,hni⟩,hfr⟩,hap⟩,hs⟩:=hs;have hrs:=cont.1 hr;have hni:=ncont hni;have hap:=aj4.1 hap;have hra:=up hrs hni;obtain ⟨fuel',rfl⟩:=fu hra;have hu:=eP (mem_ready.1 hra).1;obtain ⟨o,ho,h⟩:=eL (h:bR ops.toList i fun o=>iL τ P o ρ fun τ u=>bY τ P ops r (bq ρ o.dst u) σ K);have ho:ops[i]? =some o:=by simpa using ho
       unfold B8 at hfr;rw[ho] at hfr;simp only[ajs] at hfr;obtain ⟨⟨hg,hp⟩,hall⟩:=hfr;have hg:o.guard=none:=by simpa using hg
       obtain ⟨u,v,hv,hK,hrun⟩:=mH (w:=w) (Im:=Im) (μ:=μ) hS.rg h;have hy:Yields P ops o v a:=.inl ⟨ga hg _,fun w'=>Fi hS.ok hp (hrun w')⟩;refine xg ho (Region.noSelect_spec hsel) (fun c a w hq=>by cases hq.1) fuel' al a w (fun j oj hj hji hun hno=>?_) hra hy (ih r L _ _ R fuel' true _ _ _ σ μ Im w (by omega) (by omega) hs (hS.step hsel ho (hd _ _ ho) hap hni hS.rel (Stp.refl _ _ _ _) hv) hK);have h1:=aj4.1 hall j (alo.2 (Eq.get_lt hj));rw[hj] at h1;simp only[ak1,beq_iff_eq,hS.ls.a2 j hun] at h1;rcases h1 with(h1 | h1) | h1 | h1
       · exact absurd h1 hji
       · cases h1
       · obtain ⟨e,he,hb⟩:=Array.any_eq_true'.1 h1
         simp only[ajs,beq_iff_eq] at hb;exact absurd hb.2 (hno e he hb.1)
       · exact h1
     | 6,hs,h=>exact absurd (show False from by unfold bS at hs;cases hs) id
     | 7,hs,h=>exact absurd (show False from by unfold bS at hs;cases hs) id
     | 8,hs,h=>
       unfold bS at hs;simp only[ajs,beq_iff_eq,List.isEmpty_iff] at hs;obtain ⟨⟨⟨⟨⟨⟨⟨⟨⟨hL,hri⟩,hrp⟩,hall⟩,hra⟩,hrb⟩,hlg⟩,hwr⟩,hap⟩,hsr⟩:=hs;subst hL;have hri:=cont.1 hri;have hrp:=cont.1 hrp;obtain ⟨o,ho,h⟩:=eL (h:bR ops.toList i fun o=>bR ops.toList p fun q=>eI τ true P o ρ σ fun τ u _=>eI τ false P q ρ σ fun τ _ σ1=>eI τ true P o ρ σ1 fun τ u2 _=>sI u2 u (bY τ P ops r (bq ρ o.dst u) σ1 K));obtain ⟨q,hq,hP⟩:=eL h;have ho:ops[i]? =some o:=by simpa using ho
       have hq:ops[p]? =some q:=by simpa using hq
       unfold lsG at hlg;rw[ho,hq] at hlg;simp only[ajs] at hlg;obtain ⟨⟨⟨hl1,hl2⟩,hl3⟩,hl4⟩:=hlg;have gl2:o.guard=none:=by simpa using hl2
       have gl3:q.guard=none:=by simpa using hl3
       have gl4:q.dst=none:=by simpa using hl4
       clear hl2 hl3 hl4;have hni:∀j:Nat,j ∉ bT []:=fun j=>by simp[bT]
       have nap:∀j:Nat,∀l∈bT [],uk ops j l=true:=fun j l hl=>absurd hl (hni l);obtain ⟨dst,op,ty,pos,af,gd⟩:=o;obtain ⟨dst2,op2,ty2,pos2,af2,gd2⟩:=q;dsimp only at hl1 gl2 gl3 gl4;subst gl2 gl3 gl4
       cases op with
       | load tl xl=>
         cases op2 with
         | store ts ys zs=>
           have hP:cq ρ xl fun a0=>fe P tl a0 σ fun τ u=>cq ρ ys fun v=>cq ρ zs fun c=>fO P ts v c σ fun τ σ1=>cq ρ xl fun a1=>fe P tl a1 σ1 fun τ u2=>sI u2 u (bY τ P ops r (bq ρ dst u) σ1 K):=hP;have hdo:=hd _ _ ho;have hdp:=hd _ _ hq;obtain ⟨a0,va,h1,h2,h3⟩:=aU hS.rg hP;obtain ⟨u,v,h4,h5,h6⟩:=jj hS.rel h1 h2;obtain ⟨y0,vy,h7,h8,h9⟩:=aU hS.rg h5;obtain ⟨z0,vz,h10,h11,h12⟩:=aU hS.rg h8;obtain ⟨w1,σ1,rel1,stp1,hK1,hst1⟩:=ua hS.rel h7 h10 h11;have rg1:=hS.rg.mono (stp1.mono hS.rel);obtain ⟨a1,va1,k1,k2,k3⟩:=aU rg1 hK1;obtain ⟨u2,v2,k4,k5,k6⟩:=jj rel1 k1 k2;obtain ⟨rfl,hrest⟩:=k5
           have ld0:oT true P ⟨dst,.load tl xl,ty,pos,af,none⟩ ρc w fun _ v' w'=>v'=v∧w'=w:=by
            show dw ρc xl fun a=>dA P tl a w fun τ v' w'=>v'=v∧w'=w;rw[h3,h6];exact⟨rfl,rfl⟩
           have lt:∀{j:Nat} {x:Oper},ops[j]? =some x→j<ops.size:=fun h=>Eq.get_lt h;have upi:=up hri (hni _);have upp:=up hrp (hni _)
           have hip:i≠p:=fun e=>by
            subst e;rw[ho] at hq
            cases hq
           obtain ⟨fuel1,rfl⟩:=fu upi;have hu1:=eP (mem_ready.1 upi).1;have hu2:=eP (mem_ready.1 upp).1;have rdal:∀{j:Nat} {x y:Array Bool},LsR x y (bT [])→j∈Region.ready md ops y→j∈Region.ready md ops x:=fun{j x y} hl hj=>kn hj (fun q hq=>(hl.a3 q hq).resolve_right (hni q)) (hl.a2 j (mem_ready.1 hj).1);have rdup:∀{j:Nat} {x y:Array Bool},LsR x y (bT [])→j∈Region.ready md ops x→j∈Region.ready md ops y:=fun{j x y} hl hj=>kn hj hl.a1 (hl.a4 j (mem_ready.1 hj).1 (hni j));refine⟨fun h0=>(by rw[h0] at upi;cases upi),fun j hj=>?_⟩;have hj':=aj4.1 hall j (rdal hS.ls hj);simp only[ak1,beq_iff_eq] at hj';rcases hj' with rfl | rfl
           · --the load,then the store
             have hA:=hS.step hsel ho hdo (nap _) (hni _) hS.rel (Stp.refl _ _ _ _) h4;unfold wpOp;rw[ho];simp only;rw[if_pos (fE rfl _)];refine .inl (fg (τ:=true) hS.ok ld0 fun v' w' hvw=>?_);obtain ⟨rfl,rfl⟩:=hvw;refine⟨fun _=>Ext.refl _ _,?_⟩;have hrp2:p∈Region.ready md ops (sl.setIfInBounds j true):=by rw[hra];simp
             have upp2:=rdup hA.ls hrp2;have hu3:=eP (mem_ready.1 upp2).1;obtain ⟨fuel2,rfl⟩:∃f2,fuel1=f2+1:=⟨fuel1-1,by omega⟩;refine⟨fun h0=>(by rw[h0] at upp2;cases upp2),fun j2 hj2=>?_⟩;have hj3:=rdal hA.ls hj2;rw[hra] at hj3;obtain rfl:=akf.1 hj3;obtain ⟨p1,p2,p3⟩:=Oper.apart_spec (i6 hap ho hq);have hg2:ed w' Im μ ρ (put ρc dst v')∨True:=.inr trivial
             have stO:oT true P ⟨none,.store ts ys zs,ty2,pos2,af2,none⟩ (put ρc dst v') w' fun _ _ w''=>w''=w1:=by
              have hev:∀{x:Operand} {z:Value} {b:V} (F:Value→Prop),x∈(Op.store ts ys zs).operands.toList→(∀K',dw ρc x K'=K' z)→dw (put ρc dst v') x F=F z:=fun{x z b} F hx hz=>by
               cases dst with
               | none=>exact hz F
               | some d=>
                 cases x with
                 | tmp t=>
                   have hdt:d≠t:=fun e=>p1 d rfl (by rw[e];exact sj hx)
                   have:=hz F
                   show lk ((d,v')::ρc) t F=F z;unfold lk;rw[CD hdt];exact this
                 | const c=>exact hz F
                 | global g=>exact hz F
                 | func f=>exact hz F
              show dw (put ρc dst v') ys fun a=>dw (put ρc dst v') zs fun x=>iC P ts a x w' fun τ w''=>w''=w1;rw[hev (b:=y0) _ (by simp[Op.operands]) h9,hev (b:=z0) _ (by simp[Op.operands]) h12,hst1]
             have hB:=hA.step hsel hq hdp (nap _) (hni _) (u:=.tup []) (v:=undef) rel1 stp1 jf;unfold wpOp;rw[hq];simp only;rw[if_pos (fE rfl _)];refine .inl (fg (τ:=true) hA.ok stO fun v'' w'' hw=>?_);subst hw;exact⟨fun h=>absurd (hwr.symm.trans h) (by simp),ih r [] _ _ R fuel2 true _ _ _ σ1 μ Im _ (by omega) (by omega) hsr hB hrest⟩
           · --the store,then the load
             have hA:=hS.step hsel hq hdp (nap _) (hni _) (u:=.tup []) (v:=undef) rel1 stp1 jf
             have stO:oT true P ⟨none,.store ts ys zs,ty2,pos2,af2,none⟩ ρc w fun _ _ w''=>w''=w1:=by
              show dw ρc ys fun a=>dw ρc zs fun x=>iC P ts a x w fun τ w''=>w''=w1;rw[h9,h12,hst1]
             unfold wpOp;rw[hq];simp only;rw[if_pos (fE rfl _)];refine .inl (fg (τ:=true) hS.ok stO fun v'' w'' hw=>?_);subst hw;refine⟨fun h=>absurd (hwr.symm.trans h) (by simp),?_⟩;have hri2:i∈Region.ready md ops (sl.setIfInBounds j true):=by rw[hrb];simp
             have upi2:=rdup hA.ls hri2;have hu3:=eP (mem_ready.1 upi2).1;obtain ⟨fuel2,rfl⟩:∃f2,fuel1=f2+1:=⟨fuel1-1,by omega⟩;refine⟨fun h0=>(by rw[h0] at upi2;cases upi2),fun j2 hj2=>?_⟩;have hj3:=rdal hA.ls hj2;rw[hrb] at hj3;obtain rfl:=akf.1 hj3
             have ldO:oT true P ⟨dst,.load tl xl,ty,pos,af,none⟩ ρc w'' fun _ v' w'=>v'=v2∧w'=w'':=by
              show dw ρc xl fun a=>dA P tl a w'' fun τ v' w'=>v'=v2∧w'=w'';rw[k3,k6];exact⟨rfl,rfl⟩
             have hB:=hA.step hsel ho hdo (nap _) (hni _) rel1 (Stp.refl _ _ _ _) k4;unfold wpOp;rw[ho];simp only;rw[if_pos (fE rfl _)];refine .inl (fg (τ:=true) hA.ok ldO fun v'' w' hvw=>?_);obtain ⟨rfl,rfl⟩:=hvw;refine⟨fun _=>Ext.refl _ _,?_⟩;have c1:=alS (xs:=sl) true true hip;have c2:=alS (xs:=al) true true hip;have hu4:=eP (mem_ready.1 upi2).1;rw[←c1,←c2] at hB;rw[←c2] at hu4 ⊢;exact ih r [] _ _ R fuel2 true _ _ _ σ1 μ Im _ (by omega) (by omega) hsr hB hrest
         | _=>cases hl1
       | _=>cases hl1
     | 9,hs,h=>exact absurd (show False from by unfold bS at hs;cases hs) id
     | 10,hs,h=>
       unfold bS at hs;simp only[ajs,List.isEmpty_iff] at hs;obtain ⟨⟨hL,hc⟩,hsr⟩:=hs;subst hL;exact Ep hsel hd (m0:=E7 al) (fun al' fuel' τ' a' ρ' ρc' σ' μ' Im' w' h1 h2 hS' h'=>ih r [] _ al' R fuel' τ' a' ρ' ρc' σ' μ' Im' w' (by omega) h2 hsr hS' h') i sl al p fuel τ a ρ ρc σ μ Im w hc (ajp _) hf hS (h:bB P ops (r.take i) i p τ ρ σ fun τ ρ' σ'=>bY τ P ops r ρ' σ' K)
     | 11,hs,h=>
       unfold bS at hs;exact ih r L sl al R fuel τ a ρ ρc σ μ Im w (by omega) hf hs hS (h:bY τ P ops r ρ σ K)
     | 12,hs,h=>
       unfold bS at hs;exact ih r L sl al R fuel τ a ρ ρc σ μ Im w (by omega) hf hs hS (h:bY τ P ops r ρ σ K)
     | t+13,hs,h=>exact absurd (show False from by unfold bS at hs;cases hs) id
end
theorem WO {K:KR} {Qc:jP} {id:Nat} {ops:Array Oper} {ρ:Vg} {ρc:Rg} {σ:St} {μ:Mu} {Im:Nat→Prop} {w:World} {τ:Bool} (S:List (Nat×Nat×Nat)) (hm:P.follows .mixedOrders=true)
 (hB:(Region.noSelect ops&&bS .any ops (fun j=>S.any fun p=>(p.1==j&&(p.2.1==2 || p.2.1==7 || p.2.1==12)) || ((p.2.1==8 || p.2.1==9)&&p.2.2==j)) (Array.replicate ops.size false) [] S)=true)
 (hd:(ops.toList.all fun o=>o.dst.all (· <n))=true) (hk:k≤μ.length) (r:Rel μ Im σ w) (hg:ed w Im μ ρ ρc) (tr:TrK k μ Im σ w K fun τ=>Qc τ .normal) (h:bY τ P ops S ρ σ K):Ci P n id ops ρc w Qc:=by
 intro a hok;simp only[ajs] at hB;obtain ⟨h1,h3⟩:=hB;have mn:Mono μ Im w μ Im w.drew:=⟨akb _,fun _ h=>h,fun _ _=>rfl⟩
 have r':Rel μ Im σ w.drew:=⟨r.len,fun o ob ho=>by
  obtain ⟨loc,h1,h2⟩:=r.rep o ob ho;exact⟨loc,h1,h2.mono mn fun _ _ _=>rfl⟩,r.inj,r.im,r.lay.mono mn⟩
 have s':Stp μ Im σ w μ Im σ w.drew:=⟨akb _,fun _ h=>h,(Ext.refl _ _).drew,fun _ h=>.inl h,fun _ h=>.inl h⟩;refine wp_mono (wp_region_any (Q:=nV n fun τ=>Qc τ .normal) hm ?_) ?_
 · refine sH _ _ _ _ (At (Kc:=fun τ=>Qc τ .normal) h1 (fun i o ho=>?_) tr (S.length+E7 (Array.replicate ops.size false)) S [] (Array.replicate ops.size false) (Array.replicate ops.size false) (fun _=>⟨0,0,⟨none,.move (.tmp 0),0, "",#[],none⟩,[],0,fun _=>undef,none,none,false⟩) ops.size τ a ρ ρc σ μ Im w.drew (ajp _) (by rw[Me];exact ajp _) h3 ⟨by simp,by simp,LsR.refl _,hok,hk,r',hg.mono mn,s'.toq hk,by simp,by simp,by simp,by simp,by simp,by simp⟩ h)
   exact aj4.1 hd o (aka (by simpa using ho))
 · rintro e a' w' ⟨rfl,ρ',hok',hk⟩
   exact⟨ρ',hok',hk⟩
theorem Ko.part {π:Pi} {ρ₀ ρ:Vg} {σ₀ σ:St} {μ:Mu} {Im:Nat→Prop} {w:World} (h:Ko k π ρ₀ σ₀ ρ σ) (r:Rel μ Im σ w) (hkm:k≤μ.length):
 ∃Im',Rel (iv μ π) Im' σ₀ w∧Stq k μ Im σ w (iv μ π) Im' σ₀ w∧k≤(iv μ π).length∧Frz μ Im σ (mW π) Im':=by
 obtain ⟨h0,hs,hg⟩:=h;simp only[ajs] at h0;obtain ⟨hn,hk⟩:=h0;have fz:Frz μ Im σ (mW π) fun b=>Im b∨∃(o n:Nat) (ob:Ob),mW π o=true∧σ[o]? =some (some ob)∧μ[o]? =some (some (b,n)):=⟨fun b hb=>.inl hb,fun o b n ob h1 h2 h3=>.inr ⟨o,n,ob,h1,h2,h3⟩⟩
 obtain ⟨r',hl⟩:=r.part fz (fun j o hj=>by
  unfold mW;simp only[Bool.not_eq_false'];exact al8.2 (aka hj)) hn hs (fun b hb=>hb)
 have kf:∀i,i<k→π[i]? =some (some i):=fun i hi=>by
  have:=aj4.1 hk i (alo.2 hi)
  simpa using this
 refine⟨_,r',⟨fun i hi=>?_,fun b hb=>.inl hb,Ext.refl _ _,fun b hb=>.inl (hl b hb),fun b hb=>?_⟩,?_,fz⟩
 · rw[fJ (kf i hi)]
   obtain ⟨hsl,hss⟩:=jm hs;rw[ajm (by omega)]
   rfl
 · rcases hb with h | ⟨o,n,ob,h1,h2,h3⟩
   · exact .inl h
   · exact .inr (.inl (aG.2 ⟨o,n,ob,h3,h2⟩))
 · simp only[iv,ajl]
   rcases akT π.length k with h | h
   · have:=kf π.length h
     simp at this
   · exact h
theorem Li {w:World} {Im:Nat→Prop} {μ:Mu} {ρ:Vg} {ρc:Rg} {t:Nat} {K:V→Prop} (hg:ed w Im μ ρ ρc) (h:j5 ρ t K):∃u v,fd ρc t=some v∧RepV w Im μ u v∧K u:=by
 unfold j5 at h
 cases hf:tY ρ t with
 | none=>rw[hf] at h;exact h.elim
 | some u=>
   rw[hf] at h;obtain ⟨v,h1,h2⟩:=hg t u hf;exact⟨u,v,h1,h2,h⟩
theorem Sub.refl (ρ:Rg):Sub ρ ρ:=fun _ _ h=>h
theorem dZ:∀(c:Code),chk n pl c=true→∀(τ:Bool) (ρ:Vg) (σ:St) (μ:Mu) (Im:Nat→Prop) (w:World) (ρc:Rg) (Q:gn) (Qc:jP),P.follows .mixedOrders=true→k≤μ.length→Rel μ Im σ w→ed w Im μ ρ ρc→TrQ k μ Im σ w Q Qc→ei τ P k pl c ρ σ Q→den true P n c ρc w Qc
 | .skip,_,τ,ρ,σ,μ,Im,w,ρc,Q,Qc,hm,hk,r,hg,tr,h=>tr _ ρ σ μ Im w ρc r ((Stp.refl _ _ _ _).toq hk) hg hk h
 | .region id ops draw,hc,τ,ρ,σ,μ,Im,w,ρc,Q,Qc,hm,hk,r,hg,tr,h=>by
   simp only[chk,ajs] at hc
   cases draw with
   | true=>
     simp only[ali,alK] at hc;show Ci P n id ops ρc w Qc;exact WO (K:=fun τ=>Q τ .normal) (pl id) hm hc.2 hc.1 hk r hg (fun ρ' σ' μ' Im' w' ρc'=>tr _ ρ' σ' μ' Im' w' ρc') h
   | false=>exact ia (K:=fun τ=>Q τ .normal) (Kc:=fun τ=>Qc τ .normal) _ τ ρ σ μ Im w ρc hk r hg (fun ρ' σ' μ' Im' w' ρc'=>tr _ ρ' σ' μ' Im' w' ρc') h
 | .seq a b,hc,τ,ρ,σ,μ,Im,w,ρc,Q,Qc,hm,hk,r,hg,tr,h=>by
   simp only[chk,ajs] at hc;refine dZ a hc.1 τ ρ σ μ Im w ρc _ _ hm hk r hg ?_ (h:ei τ P k pl a ρ σ _);intro e ρ' σ' μ' Im' w' ρc' r' s' hg' hk' hq
   cases e with
   | normal=>exact dZ b hc.2 true ρ' σ' μ' Im' w' ρc' Q Qc hm hk' r' hg' (fun e ρ'' σ'' μ'' Im'' w'' ρc'' r'' s''=>tr e ρ'' σ'' μ'' Im'' w'' ρc'' r'' (s'.trans s'')) hq
   | _=>exact tr _ ρ' σ' μ' Im' w' ρc' r' s' hg' hk' hq
 | .cond c a b,hc,τ,ρ,σ,μ,Im,w,ρc,Q,Qc,hm,hk,r,hg,tr,h=>by
   simp only[chk,ajs] at hc;obtain ⟨u,v,h1,h2,h3⟩:=aU hg (h:cq ρ c _);show dw ρc c fun v=>cdK v (fun τ=>den τ P n a ρc w Qc) (fun τ=>den τ P n b ρc w Qc);rw[h3];unfold Ai at h2
   split at h2
   · cases h1
     exact⟨fun e=>dZ a hc.1 true ρ σ μ Im w ρc Q Qc hm hk r hg tr (h2.1 e),fun e=>dZ b hc.2 true ρ σ μ Im w ρc Q Qc hm hk r hg tr (h2.2 e)⟩
   · exact h2.elim
 | .block id c,hc,τ,ρ,σ,μ,Im,w,ρc,Q,Qc,hm,hk,r,hg,tr,h=>by
   refine dZ c hc τ ρ σ μ Im w ρc _ _ hm hk r hg ?_ (h:ei τ P k pl c ρ σ _);intro e ρ' σ' μ' Im' w' ρc' r' s' hg' hk' hq
   cases e with
   | exit i=>
     simp only[ov] at hq;simp only[zT]
     split at hq
     · rw[if_pos ‹_›];exact tr _ ρ' σ' μ' Im' w' ρc' r' s' hg' hk' hq
     · rw[if_neg ‹_›];exact tr _ ρ' σ' μ' Im' w' ρc' r' s' hg' hk' hq
   | _=>exact tr _ ρ' σ' μ' Im' w' ρc' r' s' hg' hk' hq
 | .loop c,hc,τ,ρ,σ,μ,Im,w,ρc,Q,Qc,hm,hk,r,hg,tr,h=>by
   obtain ⟨I,⟨m₀,π,ρ₀,σ₀,hE,hI⟩,round⟩:=(h:xZ k (ei true P k pl c) ρ σ Q)
   have enter:∀{π:Pi} {ρ₀ ρ:Vg} {σ₀ σ:St} {μ':Mu} {Im':Nat→Prop} {w':World} {ρc':Rg},Ko k π ρ₀ σ₀ ρ σ→Rel μ' Im' σ w'→ed w' Im' μ' ρ ρc'→k≤μ'.length→
    ∃Im'',Rel (iv μ' π) Im'' σ₀ w'∧Stq k μ' Im' σ w' (iv μ' π) Im'' σ₀ w'∧ed w' Im'' (iv μ' π) ρ₀ ρc'∧k≤(iv μ' π).length:=by
    intro π ρ₀ ρ σ₀ σ μ' Im' w' ρc' hE r' hg' hk';obtain ⟨Im'',h1,h2,h3,fz⟩:=hE.part r' hk';refine⟨Im'',h1,h2,?_,h3⟩;have hG:=hE.2.2
    have aux:∀(ρ₀:Vg),mG (mW π) π σ ρ₀ ρ→ed w' Im'' (iv μ' π) ρ₀ ρc':=by
     intro ρ₀
     induction ρ₀ with
     | nil=>intro _ t u ht;simp[tY] at ht
     | cons x ρ₀ ih=>
       obtain ⟨s,u⟩:=x;intro hG t u' ht;unfold mG at hG;rw[iz] at ht
       split at ht
       · rename_i e
         subst e
         cases ht
         obtain ⟨v,vc,h4,h5,h6⟩:=Li hg' hG.1;exact⟨_,h4,kx r' fz h6 h5⟩
       · exact ih hG.2 t u' ht
    exact aux ρ₀ hG
   obtain ⟨Im₁,r₁,s₁,g₁,k₁⟩:=enter hE r hg hk;refine⟨fun m ρc' w'=>∃ρ' σ' μ' Im',I m ρ' σ'∧Rel μ' Im' σ' w'∧Stq k μ Im σ w μ' Im' σ' w'∧ed w' Im' μ' ρ' ρc'∧k≤μ'.length,⟨m₀,ρc,Sub.refl _,ρ₀,σ₀,_,Im₁,hI,r₁,s₁,g₁,k₁⟩,?_⟩;rintro m ρc' w' ⟨ρ',σ',μ',Im',hI',r',s',g',k'⟩;refine dZ c hc true ρ' σ' μ' Im' w' ρc' _ _ hm k' r' g' ?_ (round m ρ' σ' hI');intro e ρ'' σ'' μ'' Im'' w'' ρc'' r'' s'' g'' k'' hq
   cases e with
   | normal=>
     obtain ⟨m',π',ρ₁,σ₁,hlt,hE',hI''⟩:=hq;obtain ⟨Im₂,r₂,s₂,g₂,k₂⟩:=enter hE' r'' g'' k'';exact⟨m',ρc'',hlt,Sub.refl _,ρ₁,σ₁,_,Im₂,hI'',r₂,(s'.trans s'').trans s₂,g₂,k₂⟩
   | _=>exact tr _ ρ'' σ'' μ'' Im'' w'' ρc'' r'' (s'.trans s'') g'' k'' hq
 | .exit id,_,τ,ρ,σ,μ,Im,w,ρc,Q,Qc,hm,hk,r,hg,tr,h=>tr _ ρ σ μ Im w ρc r ((Stp.refl _ _ _ _).toq hk) hg hk h
 | .ret,_,τ,ρ,σ,μ,Im,w,ρc,Q,Qc,hm,hk,r,hg,tr,h=>tr _ ρ σ μ Im w ρc r ((Stp.refl _ _ _ _).toq hk) hg hk h
 | .rangeFunc ..,_,_,_,_,_,_,_,_,_,_,_,_,_,_,_,h=>(h:False).elim
 | .scope c,hc,τ,ρ,σ,μ,Im,w,ρc,Q,Qc,hm,hk,r,hg,tr,h=>by
   refine dZ c hc τ ρ σ μ Im w ρc _ (AW Qc) hm hk r hg ?_ (h:ei τ P k pl c ρ σ _);intro e ρ' σ' μ' Im' w' ρc' r' s' hg' hk' hq
   cases e with
   | goto l=>exact hq.elim
   | _=>exact tr _ ρ' σ' μ' Im' w' ρc' r' s' hg' hk' hq
 | .label ..,_,τ,ρ,σ,μ,Im,w,ρc,Q,Qc,hm,hk,r,hg,tr,h=>tr _ ρ σ μ Im w ρc r ((Stp.refl _ _ _ _).toq hk) hg hk h
 | .goto ..,_,_,_,_,_,_,_,_,_,_,_,_,_,_,_,h=>(h:False).elim
 | .refuse ..,_,_,_,_,_,_,_,_,_,_,_,_,_,_,_,h=>(h:False).elim
end
end Go.Vx
namespace Go.Vx
open Go.Eng
set_option linter.unusedSimpArgs false
set_option linter.unusedVariables false
def Fs:Nat→List V→Vg
 | _,[]=> []
 | i,v::r=>(i,v)::Fs (i+1) r
def dt (P:Program):List ResultVar→Vg→St→(List V→Prop)→Prop
 | [],_,_,K=>K []
 | .tmp t::r,ρ,σ,K=>j5 ρ t fun v=>dt P r ρ σ fun vs=>K (v::vs)
 | .cell t ty::r,ρ,σ,K=>j5 ρ t fun p=>fe P ty p σ fun _ v=>dt P r ρ σ fun vs=>K (v::vs)
def my:List V→V
 | [v]=>v
 | vs=>.tup vs
def qA (P:Program) (rs:List ResultVar) (R:V→St→Prop):gn
 | _,.normal,ρ,σ=>dt P rs ρ σ fun vs=>R (my vs) σ
 | _,.ret,ρ,σ=>dt P rs ρ σ fun vs=>R (my vs) σ
 | _,_,_,_=>False
def Fn (P:Program) (f:FuncId) (vs:List V) (σ:St) (Q:V→St→Prop):Prop:=
 (∀(args:Array Value) (w:World),(callFunc f args).run P w=.ok (.enter f args) w)∧
 ∀(μ:Mu) (Im:Nat→Prop) (w:World) (args:List Value),Rel μ Im σ w→bh w Im μ vs args→
  vC P f args w fun v w'=>∃u σ' μ' Im',Rel μ' Im' σ' w'∧Stq σ.length μ Im σ w μ' Im' σ' w'∧σ.length≤μ'.length∧RepV w' Im' μ' u v∧Q u σ'
def aA (P:Program) (f:FuncId) (vs:List V) (σ:St) (u:V) (s:St):Prop:=Fn P f vs σ fun u' s'=>u'=u∧s'=s
theorem Fn.mono {P:Program} {f:FuncId} {vs:List V} {σ:St} {Q Q':V→St→Prop} (h:Fn P f vs σ Q) (hq:∀u s,Q u s→Q' u s):Fn P f vs σ Q':=
 ⟨h.1,fun μ Im w args r hr=>(h.2 μ Im w args r hr).mono fun v w' ⟨u,σ',μ',Im',h1,h2,h3,h4,h5⟩=>⟨u,σ',μ',Im',h1,h2,h3,h4,hq _ _ h5⟩⟩
section
variable {P:Program}
theorem ec {n:Nat} {pl:aI}:∀(c:Code),chk n pl c=true→mb n c=true
 | .region _ ops draw,h=>by simp only[chk,ajs] at h;exact h.1
 | .seq a b,h=>by simp only[chk,ajs] at h;simp only[mb,ajs];exact⟨ec a h.1,ec b h.2⟩
 | .cond _ a b,h=>by simp only[chk,ajs] at h;simp only[mb,ajs];exact⟨ec a h.1,ec b h.2⟩
 | .block _ c,h=>ec c h
 | .loop c,h=>ec c h
 | .skip,_=>rfl
 | .exit _,_=>rfl
 | .ret,_=>rfl
 | .rangeFunc ..,_=>rfl
 | .scope c,h=>ec c h
 | .label ..,_=>rfl
 | .goto ..,_=>rfl
 | .refuse ..,_=>rfl
theorem uD {w:World} {Im:Nat→Prop} {μ:Mu}:∀{vs:List V} {args:List Value} (i:Nat),bh w Im μ vs args→ed w Im μ (Fs i vs) (xN i args)
 | [],_,i,_=>fun t u h=>by simp[Fs,tY] at h
 | v::vs,args,i,h=>by
   obtain ⟨a,args,rfl,h1,h2⟩:=h.uncons;exact(uD (i+1) h2).cons i h1
theorem iA {w:World} {Im:Nat→Prop} {μ:Mu} {σ:St} {ρ:Vg} {ρc:Rg} (r:Rel μ Im σ w) (hg:ed w Im μ ρ ρc):∀{rs:List ResultVar} {K:List V→Prop} {Kc:List Value→Prop},dt P rs ρ σ K→(∀us vs,bh w Im μ us vs→K us→Kc vs)→db P rs ρc w Kc
 | [],K,Kc,h,hk=>hk [] [] .nil h
 | .tmp t::rs,K,Kc,h,hk=>by
   obtain ⟨u,v,h1,h2,h3⟩:=lK hg (h:j5 ρ t _);show lk ρc t fun v=>db P rs ρc w fun vs=>Kc (v::vs);rw[h3];exact iA r hg h2 fun us vs hr hK=>hk _ _ (.cons h1 hr) hK
 | .cell t ty::rs,K,Kc,h,hk=>by
   obtain ⟨u,v,h1,h2,h3⟩:=lK hg (h:j5 ρ t _);obtain ⟨u',v',h4,h5,h6⟩:=jj r h1 h2;show lk ρc t fun p=>dA P ty p w fun _ v _=>db P rs ρc w fun vs=>Kc (v::vs);rw[h3,h6];exact iA r hg h5 fun us vs hr hK=>hk _ _ (.cons h4 hr) hK
theorem xu {w:World} {Im:Nat→Prop} {μ:Mu} {us:List V} {vs:List Value} (h:bh w Im μ us vs):RepV w Im μ (my us) (mi vs):=by
 match us,h with
 | [],h=>
   have:vs=[]:=ajB.1 (by simpa using h.1)
   subst this;exact .tup h.1 h.2
 | [u],h=>
   obtain ⟨v,vs,rfl,h1,h2⟩:=h.uncons
   have:vs=[]:=ajB.1 (by simpa using h2.1)
   subst this;exact h1
 | u::u'::us,h=>
   obtain ⟨v,vs,rfl,h1,h2⟩:=h.uncons;obtain ⟨v',vs,rfl,h3,h4⟩:=h2.uncons;exact .tup h.1 h.2
def te (k:Nat) (Q:V→St→Prop) (u:V) (s:St):Prop:=∃π u₀ s₀,agj k π u₀ s₀ u s∧Q u₀ s₀
theorem Ns {f:FuncId} {fn:Func} {c:Code} {vs:List V} {σ:St} {Q:V→St→Prop} (pl:aI) (hm:P.follows .mixedOrders=true) (hcf:∀(args:Array Value) (w:World),(callFunc f args).run P w=.ok (.enter f args) w)
 (hf:P.funcs[f]? =some fn) (hb:fn.body=some c) (hc:chk fn.ntmps pl c=true) (hs:Nat.ble vs.length fn.ntmps=true) (rs:List ResultVar) (hr:fn.results.toList=rs)
 (h:ei true P σ.length pl c (Fs 0 vs) σ (qA P rs (te σ.length Q))):Fn P f vs σ Q:=by
 refine⟨hcf,fun μ Im w args r hl=>?_⟩;refine GR hf hb (ec c hc) (by rw[hl.1];exact hs) rs hr ?_;refine dZ c hc true _ σ μ Im w _ _ _ hm (by rw[r.len];exact ajp _) r (uD 0 hl) ?_ h;intro e ρ' σ' μ' Im' w' ρc r' s' g' k' hq
 have fin:dt P rs ρ' σ' (fun vs=>te σ.length Q (my vs) σ')→db P rs ρc w' fun vs=>∃u σ' μ' Im',Rel μ' Im' σ' w'∧Stq σ.length μ Im σ w μ' Im' σ' w'∧σ.length≤μ'.length∧RepV w' Im' μ' u (mi vs)∧Q u σ':=fun hq=>
  iA r' g' hq fun us vs hus hE=>by
   obtain ⟨π,u₀,s₀,⟨h1,h2,h3⟩,hQ⟩:=hE;obtain ⟨Im'',q1,q2,q3,fz⟩:=Ko.part (ρ₀:=[]) (ρ:=[]) ⟨h1,h2,trivial⟩ r' k';exact⟨u₀,s₀,_,Im'',q1,s'.trans q2,q3,kx r' fz h3 (xu hus),hQ⟩
 cases e with
 | normal=>exact fin hq
 | ret=>exact fin hq
 | _=>exact hq.elim
theorem Fn.tell {f:FuncId} {vs:List V} {σ:St} {Q Q':V→St→Prop} (h:Fn P f vs σ Q) (hq:∀u s,Q u s→te σ.length Q' u s):Fn P f vs σ Q':=
 ⟨h.1,fun μ Im w args r hr=>(h.2 μ Im w args r hr).mono fun v w' ⟨u,σ',μ',Im',h1,h2,h3,h4,h5⟩=>by
  obtain ⟨π,u₀,s₀,⟨e1,e2,e3⟩,hQ⟩:=hq u σ' h5;obtain ⟨Im'',q1,q2,q3,fz⟩:=Ko.part (ρ₀:=[]) (ρ:=[]) ⟨e1,e2,trivial⟩ h1 h3;exact⟨u₀,s₀,_,Im'',q1,h2.trans q2,q3,kx h1 fz e3 h4,hQ⟩⟩
mutual
def lY (f:Nat→Nat):V→V
 | .lit v=>.lit v
 | .row z l=>.row z l
 | .xrow z l=>.xrow z l
 | .ref o z i off=>.ref (f o) z i off
 | .sl o z off len=>.sl (f o) z off len
 | .rref z l i off=>.rref z l i off
 | .agg l=>.agg (sD f l)
 | .tup l=>.tup (sD f l)
 | .clo g l=>.clo g (sD f l)
def sD (f:Nat→Nat):List V→List V
 | []=> []
 | v::vs=>lY f v::sD f vs
end
def Gf (f:Nat→Nat):Ob→Ob
 | .cells l=>.cells (sD f l)
 | .row z l=>.row z l
def yr (f:Nat→Nat):Option Ob→Option Ob
 | none=>none
 | some ob=>some (Gf f ob)
def wF:List Nat→Nat→Nat→Nat
 | [],n,j=>n+j
 | p::_,_,0=>p
 | _::r,n,j+1=>wF r n j
def tn (f:Nat→Nat):St→St
 | []=> []
 | x::s=>yr f x::tn f s
def zc (f:Nat→Nat):List Nat→St→St→St
 | [],σ,s=>σ++tn f s
 | p::π,σ,x::s=>zc f π (σ.set p (yr f x)) s
 | _::_,σ,[]=>σ
def kill:List Nat→St→St
 | [],σ=>σ
 | o::F,σ=>kill F (σ.set o none)
theorem jS (f:Nat→Nat):∀l:List V,sD f l=l.map (lY f)
 | []=>rfl
 | v::l=>by simp[sD,jS f l]
theorem nQ (f:Nat→Nat):∀s:St,tn f s=s.map (yr f)
 | []=>rfl
 | v::l=>by simp[tn,nQ f l]
theorem Ag:∀{π:List Nat} {n j:Nat} (h:j<π.length),wF π n j=π[j]
 | [],_,_,h=>by simp at h
 | p::π,n,0,_=>rfl
 | p::π,n,j+1,h=>by simpa [wF] using Ag (π:=π) (n:=n) (j:=j) (by simpa using h)
theorem zg:∀{π:List Nat} {n j:Nat} (h:π.length≤j),wF π n j=n+(j-π.length)
 | [],_,_,_=>by simp[wF]
 | p::π,n,0,h=>by simp at h
 | p::π,n,j+1,h=>by simpa [wF] using zg (π:=π) (n:=n) (j:=j) (by simpa using h)
theorem Cm {f:Nat→Nat}:∀{π:List Nat} {σ s:St},π.length≤s.length→(zc f π σ s).length=σ.length+(s.length-π.length)
 | [],σ,s,_=>by simp[zc,nQ]
 | p::π,σ,[],h=>by simp at h
 | p::π,σ,x::s,h=>by rw[zc,Cm (by simpa using h)];simp
theorem vJ {f:Nat→Nat}:∀{π:List Nat} {σ s:St} {i:Nat},π.length≤s.length→i<σ.length→i ∉ π→(zc f π σ s)[i]? =σ[i]?
 | [],σ,s,i,_,hi,_=>by rw[zc,ajw hi]
 | p::π,σ,[],i,h,_,_=>by simp at h
 | p::π,σ,x::s,i,h,hi,hn=>by
   simp only[ajC,not_or] at hn;rw[zc,vJ (by simpa using h) (by simpa using hi) hn.2,akt (fun e=>hn.1 e.symm)]
theorem Ju {f:Nat→Nat}:∀{π:List Nat} {σ s:St} {j p:Nat},π.length≤s.length→π.Nodup→π[j]? =some p→p<σ.length→(zc f π σ s)[p]? =(s[j]?).map (yr f)
 | [],σ,s,j,p,_,_,h,_=>by simp at h
 | q::π,σ,[],j,p,h,_,_,_=>by simp at h
 | q::π,σ,x::s,0,p,h,hn,hp,hl=>by
   simp only[ak8] at hn;simp at hp;subst hp;rw[zc,vJ (by simpa using h) (by simpa using hl) hn.1,alh hl]
   rfl
 | q::π,σ,x::s,j+1,p,h,hn,hp,hl=>by
   simp only[ak8] at hn;rw[zc,Ju (j:=j) (by simpa using h) hn.2 (by simpa using hp) (by simpa using hl)]
   simp
theorem BU {f:Nat→Nat}:∀{π:List Nat} {σ s:St} {i:Nat},π.length≤s.length→σ.length≤i→(zc f π σ s)[i]? =(s[π.length+(i-σ.length)]?).map (yr f)
 | [],σ,s,i,_,hi=>by rw[zc,ajx hi,nQ,aj1];simp
 | p::π,σ,[],i,h,_=>by simp at h
 | p::π,σ,x::s,i,h,hi=>by
   rw[zc,BU (by simpa using h) (by simpa using hi)];simp only[ajR,ajr];rw[show π.length+1+(i-σ.length)=(π.length+(i-σ.length))+1 by omega,ald]
theorem nr:∀(F:List Nat) (σ:St),(kill F σ).length=σ.length
 | [],σ=>rfl
 | o::F,σ=>by rw[kill,nr F];simp
theorem y9:∀(F:List Nat) (σ:St) {i:Nat} {ob:Ob},(kill F σ)[i]? =some (some ob)→i ∉ F∧σ[i]? =some (some ob)
 | [],σ,i,ob,h=>⟨by simp,h⟩
 | o::F,σ,i,ob,h=>by
   obtain ⟨h1,h2⟩:=y9 F (σ.set o none) h
   by_cases e:o=i
   · subst e
     rw[List.getElem?_set] at h2;simp at h2
   · rw[akt e] at h2
     exact⟨by simp[h1];exact fun h=>e h.symm,h2⟩
theorem RepV.ren {w:World} {Im:Nat→Prop} {μ μ':Mu} {f:Nat→Nat} (hf:∀(j:Nat) x,μ[j]? =some x→μ'[f j]? =some x) {u:V} {v:Value} (h:RepV w Im μ u v):RepV w Im μ' (lY f u) v:=by
 have lst:∀{l:List V} {C:List Value},(∀(i:Nat) u c,l[i]? =some u→C[i]? =some c→RepV w Im μ' (lY f u) c)→∀(i:Nat) u c,(sD f l)[i]? =some u→C[i]? =some c→RepV w Im μ' u c:=by
  intro l C ih i u c hu hc;rw[jS,aj1] at hu
  cases hx:l[i]? with
  | none=>rw[hx] at hu;cases hu
  | some x=>rw[hx] at hu;cases hu;exact ih i x c hx hc
 induction h with
 | lit h=>exact .lit h
 | row h=>exact .row h
 | xrow h=>exact .xrow h
 | ref h=>exact .ref (hf _ _ h)
 | sl h=>
   obtain ⟨x,hx⟩:=h.some;refine .sl ?_;rw[hf _ _ hx];rw[hx] at h;exact h
 | rref q1 q2 q3 q4 q5 q6=>exact .rref q1 q2 q3 q4 q5 q6
 | agg hn ho _ ih=>exact .agg (by rw[jS];simpa using hn) ho (lst ih)
 | tup hn _ ih=>exact .tup (by rw[jS];simpa using hn) (lst ih)
 | clo hn _ ih=>exact .clo (by rw[jS];simpa using hn) (lst ih)
theorem fA.ren {w:World} {Im:Nat→Prop} {μ μ':Mu} {f:Nat→Nat} (hf:∀(j:Nat) x,μ[j]? =some x→μ'[f j]? =some x) {loc:Option (Nat×Nat)} {ob:Ob} (h:fA w Im μ loc ob):fA w Im μ' loc (Gf f ob):=by
 cases ob with
 | cells l=>
   obtain ⟨b,C,D,e,hB,ho,hL⟩:=h;refine⟨b,C,D,e,hB,ho,by rw[jS];simpa using hL.1,fun i u c hu hc=>?_⟩;rw[jS,aj1] at hu
   cases hx:l[i]? with
   | none=>rw[hx] at hu;cases hu
   | some x=>rw[hx] at hu;cases hu;exact(hL.2 i x c hx hc).ren hf
 | row z l=>exact h
def iZ:Nat→Pi→List Nat
 | _,[]=> []
 | n,some o::r=>o::iZ n r
 | n,none::r=>n::iZ (n+1) r
def j4:Pi→Nat
 | []=>0
 | some _::r=>j4 r
 | none::r=>j4 r+1
def tj:Nat→St→St
 | 0,σ=>σ
 | n+1,σ=>tj n (σ++[none])
theorem Cs:∀(n:Nat) (σ:St),tj n σ=σ++List.replicate n none
 | 0,σ=>by simp[tj]
 | n+1,σ=>by rw[tj,Cs n];simp[akF]
theorem vW:∀(π:Pi) (n:Nat),(iZ n π).length=π.length
 | [],_=>rfl
 | some _::r,n=>by simp[iZ,vW r]
 | none::r,n=>by simp[iZ,vW r]
theorem nq:∀(π:Pi) (n j o:Nat),π[j]? =some (some o)→(iZ n π)[j]? =some o
 | [],_,j,o,h=>by simp at h
 | some p::r,n,0,o,h=>by simp at h;subst h;rfl
 | none::r,n,0,o,h=>by simp at h
 | some p::r,n,j+1,o,h=>by simpa [iZ] using nq r n j o (by simpa using h)
 | none::r,n,j+1,o,h=>by simpa [iZ] using nq r (n+1) j o (by simpa using h)
theorem rW:∀(π:Pi) (n j:Nat),π[j]? =some none→∃m,(iZ n π)[j]? =some m∧n≤m∧m<n+j4 π
 | [],_,j,h=>by simp at h
 | some p::r,n,0,h=>by simp at h
 | none::r,n,0,_=>⟨n,rfl,ajp _,by simp[j4]⟩
 | some p::r,n,j+1,h=>by simpa [iZ,j4] using rW r n j (by simpa using h)
 | none::r,n,j+1,h=>by
   obtain ⟨m,h1,h2,h3⟩:=rW r (n+1) j (by simpa using h);exact⟨m,by simpa [iZ] using h1,by omega,by simp only[j4];omega⟩
theorem nv:∀(π:Pi) (n m:Nat),m∈iZ n π→some m∈π∨(n≤m∧m<n+j4 π)
 | [],_,m,h=>by simp[iZ] at h
 | some p::r,n,m,h=>by
   simp only[iZ,ajC] at h;rcases h with rfl | h
   · exact .inl (by simp)
   · exact(nv r n m h).imp (fun h=>by simp[h]) id
 | none::r,n,m,h=>by
   simp only[iZ,ajC] at h;simp only[j4];rcases h with rfl | h
   · exact .inr ⟨ajp _,by omega⟩
   · rcases nv r (n+1) m h with h | h
     · exact .inl (by simp[h])
     · exact .inr ⟨by omega,by omega⟩
theorem oM:∀(π:Pi) (n:Nat),(π.filterMap id).Nodup→(∀p,some p∈π→p<n)→(iZ n π).Nodup
 | [],_,_,_=>by simp[iZ]
 | some p::r,n,h,hb=>by
   simp only[List.filterMap_cons,id,ak8] at h;simp only[iZ,ak8];refine⟨fun hm=>?_,oM r n h.2 (fun q hq=>hb q (by simp[hq]))⟩;rcases nv r n p hm with h1 | h1
   · exact h.1 (List.mem_filterMap.2 ⟨some p,h1,rfl⟩)
   · have:=hb p (by simp);omega
 | none::r,n,h,hb=>by
   simp only[List.filterMap_cons,id] at h;simp only[iZ,ak8];refine⟨fun hm=>?_,oM r (n+1) h (fun q hq=>by have:=hb q (by simp[hq]);omega)⟩;rcases nv r (n+1) n hm with h1 | h1
   · have:=hb n (by simp[h1]);omega
   · omega
def WA (π:Pi) (F:List Nat) (vs₀:List V) (σ₀:St) (vs:List V) (σ:St):Prop:=
 (RX π&&π.all (fun p=>match p with | some p=>decide (p<σ.length)&&!F.contains p | none=>true))=true∧nM F.contains π σ σ₀ π∧qn F.contains π σ vs₀ vs
def r7 (π:Pi) (F:List Nat) (σ s:St):St:=zc (wF (iZ σ.length π) (σ.length+j4 π)) (iZ σ.length π) (tj (j4 π) (kill F σ)) s
theorem wL {e:Bool} {f:FuncId} {vs vs₀:List V} {σ σ₀:St} {Q:V→St→Prop} {K:KV} (π:Pi) (F:List Nat) (spec:Fn P f vs₀ σ₀ Q) (hm:WA π F vs₀ σ₀ vs σ) (he:e=true→σ₀=[])
 (hk:∀u s,Q u s→K true (lY (wF (iZ σ.length π) (σ.length+j4 π)) u) (r7 π F σ s)):dB P e f vs σ K:=by
 refine nR spec.1 fun μ Im w args r hr=>?_;obtain ⟨hc,hs,hv⟩:=hm;simp only[ajs] at hc;obtain ⟨hnp,hall⟩:=hc
 have hall':∀p,some p∈π→p<σ.length∧F.contains p=false:=fun p hp=>by
  have:=aj4.1 hall _ hp
  simpa using this
 have fz:Frz μ Im σ F.contains fun b=>Im b∨∃(o n:Nat) (ob:Ob),F.contains o=true∧σ[o]? =some (some ob)∧μ[o]? =some (some (b,n)):=⟨fun b hb=>.inl hb,fun o b n ob h1 h2 h3=>.inr ⟨o,n,ob,h1,h2,h3⟩⟩;obtain ⟨r₀,hl₀⟩:=r.part fz (fun j o hj=>(hall' o (aka hj)).2) (zz hnp) hs (fun b hb=>hb);obtain ⟨hsl,hss⟩:=jm hs;refine(spec.2 (iv μ π) _ w args r₀ (fD r fz hv hr)).mono ?_;rintro v w' ⟨u,s,μ₁,Im₁,r₁,s₁,hlen,hu,hQ⟩;have hn:μ.length=σ.length:=r.len;generalize hN:σ.length=N at*
 generalize hq:j4 π=q at*
 have hμ₁:μ₁.length=s.length:=r₁.len;have hpl:(iZ N π).length=π.length:=vW π N;have hps:(iZ N π).length≤s.length:=by omega
 have hnd:(iZ N π).Nodup:=oM π N (of_decide_eq_true hnp) fun p hp=>(hall' p hp).1;have hkx:(tj q (kill F σ))=kill F σ++List.replicate q none:=Cs _ _;have hxl:(tj q (kill F σ)).length=N+q:=by rw[hkx];simp[nr,hN]
 have hplt:∀p∈iZ N π,p<N+q:=fun p hp=>by
  rcases nv π N p hp with h | h
  · have:=(hall' p h).1;omega
  · rw[hq] at h;omega
 have hmx:(μ++List.replicate q none).length=N+q:=by simp[hn]
 have hf:∀(j:Nat) x,μ₁[j]? =some x→((μ++List.replicate q none)++μ₁.drop π.length)[wF (iZ N π) (N+q) j]? =some x:=by
  intro j x hx
  by_cases hj:j<π.length
  · have hjp:j<(iZ N π).length:=by omega
    rw[Ag hjp,ajw (by rw[hmx];exact hplt _ (akA hjp))];rw[s₁.pre j (by omega)] at hx;have hpj:π[j]? =some π[j]:=ajm hj
    cases hp:π[j] with
    | some o=>
      rw[hp] at hpj;have h1:=nq π N j o hpj;rw[ajm hjp] at h1;have h2:(iZ N π)[j]=o:=Option.some.inj h1;have hlt:o<μ.length:=by rw[hn];exact(hall' o (aka hpj)).1
      rw[h2,ajw hlt];rw[fJ hpj,ajm hlt] at hx;rw[ajm hlt];simpa using hx
    | none=>
      rw[hp] at hpj;obtain ⟨m,h1,h2,h3⟩:=rW π N j hpj;rw[ajm hjp] at h1;have h4:(iZ N π)[j]=m:=Option.some.inj h1;rw[jv hpj] at hx;rw[h4,ajx (by omega),alW,if_pos (by rw[hq] at h3;omega),←hx]
  · rw[zg (by omega),ajx (by omega),akc,←hx]
    congr 1
    rw[hmx];omega
 have src:∀(i:Nat) ob,(r7 π F σ s)[i]? =some (some ob)→
  (some i ∉ π∧i ∉ F∧i<N∧σ[i]? =some (some ob))∨∃j ob₁,s[j]? =some (some ob₁)∧ob=Gf (wF (iZ N π) (N+q)) ob₁∧i=wF (iZ N π) (N+q) j:=by
  intro i ob h;unfold r7 at h;rw[hN,hq] at h
  by_cases hi:i<N+q
  · by_cases hp:i∈iZ N π
    · obtain ⟨j,hj,hje⟩:=akI.1 hp
      rw[Ju (j:=j) hps hnd (by rw[ajm hj,hje]) (by omega)] at h
      cases hx:s[j]? with
      | none=>rw[hx] at h;cases h
      | some x=>
        rw[hx] at h
        cases x with
        | none=>cases h
        | some ob₁=>cases h;exact .inr ⟨j,ob₁,hx,rfl,by rw[Ag hj,hje]⟩
    · rw[vJ hps (by omega) hp,hkx] at h
      by_cases hiN:i<N
      · rw[ajw (by rw[nr,hN];exact hiN)] at h
        obtain ⟨h1,h2⟩:=y9 F σ h;refine .inl ⟨fun hm=>?_,h1,hiN,h2⟩;obtain ⟨j,hj,hje⟩:=akI.1 hm;exact hp (aka (nq π N j i (by rw[ajm hj,hje])))
      · rw[ajx (by rw[nr,hN];omega),alW] at h
        split at h<;>cases h
  · rw[BU hps (by omega)] at h
    cases hx:s[(iZ N π).length+(i-(tj q (kill F σ)).length)]? with
    | none=>rw[hx] at h;cases h
    | some x=>
      rw[hx] at h
      cases x with
      | none=>cases h
      | some ob₁=>cases h;exact .inr ⟨_,ob₁,hx,rfl,by rw[zg (by omega)];omega⟩
 have hext:Ext (live μ σ) w w':=s₁.ext.mono fun b hb=>.inl (hl₀ b hb);have mn:Mono μ Im w ((μ++List.replicate q none)++μ₁.drop π.length) Im₁ w':=⟨by rw[ajq];exact akC _ _,fun b hb=>s₁.im b (.inl hb),fun b hb=>hext.block b (r.im b hb).1 (r.im b hb).2⟩
 have oldget:∀{i:Nat} {x},i<N→((μ++List.replicate q none)++μ₁.drop π.length)[i]? =x→μ[i]? =x:=fun{i x} hi h=>by
  rw[ajq,ajw (by omega)] at h;exact h
 have apart:∀{i:Nat} {ob:Ob} {b n:Nat},some i ∉ π→σ[i]? =some (some ob)→μ[i]? =some (some (b,n))→b ∉ live (iv μ π) σ₀:=by
  intro i ob b n hi h1 h2 hb;obtain ⟨j,m,ob₀,h3,h4⟩:=aG.1 hb;rcases hss j ob₀ h4 with⟨o,ob',h5,h6,_⟩ | ⟨h5,_⟩
  · rw[fJ h5] at h3
    obtain ⟨loc,h7,_⟩:=r.rep o ob' h6;rw[h7] at h3;simp at h3;subst h3
    have:=r.inj i o ob ob' b n m h1 h6 h2 h7
    subst this;exact hi (aka h5)
  · rw[jv h5] at h3
    cases h3
 have news:∀{j:Nat} {ob:Ob} {b n:Nat},s[j]? =some (some ob)→((μ++List.replicate q none)++μ₁.drop π.length)[wF (iZ N π) (N+q) j]? =some (some (b,n))→μ₁[j]? =some (some (b,n)):=by
  intro j ob b n h1 h2
  have:μ₁[j]? =some (μ₁[j]'(by rw[hμ₁];exact get_lt h1)):=ajm _
  rw[hf j _ this] at h2;rw[this];exact h2
 have hlive:∀b∈live ((μ++List.replicate q none)++μ₁.drop π.length) (r7 π F σ s),b∈live μ σ∨w.heap.size≤b:=by
  intro b hb;obtain ⟨i,n,ob,h1,h2⟩:=aG.1 hb;rcases src i ob h2 with⟨h3,h4,h5,h6⟩ | ⟨j,ob₁,h3,rfl,rfl⟩
  · exact .inl (aG.2 ⟨i,n,ob,oldget h5 h1,h6⟩)
  · exact(s₁.live b (aG.2 ⟨j,n,ob₁,news h3 h1,h3⟩)).imp (hl₀ b) id
 refine⟨_,_,(μ++List.replicate q none)++μ₁.drop π.length,Im₁,⟨?_,fun i ob h=>?_,fun i i' ob ob' b n n' h1 h2 h3 h4=>?_,fun b hb=>?_,r₁.lay⟩,⟨by rw[ajq];exact akC _ _,fun b hb=>s₁.im b (.inl hb),hext,hlive,fun b hb=>?_⟩,fun e'=>?_,hu.ren hf,hk u s hQ⟩
 · unfold r7
   rw[hN,hq,Cm hps,hxl];simp[hn];omega
 · rcases src i ob h with⟨h3,h4,h5,h6⟩ | ⟨j,ob₁,h3,rfl,rfl⟩
   · obtain ⟨loc,h7,h8⟩:=r.rep i ob h6
     refine⟨loc,by rw[ajq,ajw (by omega)];exact h7,h8.mono mn fun b n e=>?_⟩;subst e;exact s₁.ext.block b (r.lt (aG.2 ⟨i,n,ob,h7,h6⟩)) (apart h3 h6 h7)
   · obtain ⟨loc,h7,h8⟩:=r₁.rep j ob₁ h3
     exact⟨loc,hf j loc h7,h8.ren hf⟩
 · have mixed:∀{i j:Nat} {ob ob₁:Ob} {b n n':Nat},some i ∉ π→i<N→σ[i]? =some (some ob)→((μ++List.replicate q none)++μ₁.drop π.length)[i]? =some (some (b,n))→s[j]? =some (some ob₁)→((μ++List.replicate q none)++μ₁.drop π.length)[wF (iZ N π) (N+q) j]? =some (some (b,n'))→False:=by
    intro i j ob ob₁ b n n' h1 h2 h3 h4 h5 h6;have h4':=oldget h2 h4;rcases s₁.live b (aG.2 ⟨j,n',ob₁,news h5 h6,h5⟩) with h7 | h7
    · exact apart h1 h3 h4' h7
    · have:=r.lt (aG.2 ⟨i,n,ob,h4',h3⟩)
      omega
   rcases src i ob h1 with⟨q1,q2,q3,q4⟩ | ⟨j,ob₁,q1,rfl,rfl⟩
   · rcases src i' ob' h2 with⟨q5,q6,q7,q8⟩ | ⟨j,ob₁,q5,rfl,rfl⟩
     · exact r.inj i i' ob ob' b n n' q4 q8 (oldget q3 h3) (oldget q7 h4)
     · exact(mixed q1 q3 q4 h3 q5 h4).elim
   · rcases src i' ob' h2 with⟨q5,q6,q7,q8⟩ | ⟨j',ob₁',q5,rfl,rfl⟩
     · exact(mixed q5 q7 q8 h4 q1 h3).elim
     · have:=r₁.inj j j' ob₁ ob₁' b n n' q1 q5 (news q1 h3) (news q5 h4)
       subst this
       rfl
 · refine⟨(r₁.im b hb).1,fun h=>?_⟩
   obtain ⟨i,n,ob,h1,h2⟩:=aG.1 h;rcases src i ob h2 with⟨q1,q2,q3,q4⟩ | ⟨j,ob₁,q1,rfl,rfl⟩
   · have h1':=oldget q3 h1
     have hbl:b∈live μ σ:=aG.2 ⟨i,n,ob,h1',q4⟩;rcases s₁.fresh b hb with(h5 | ⟨o,m,ob',h5,h6,h7⟩) | h5 | h5
     · exact(r.im b h5).2 hbl
     · have:=r.inj i o ob ob' b n m q4 h6 h1' h7
       subst this;exact q2 (al8.1 h5)
     · exact apart q1 q4 h1' h5
     · have:=r.lt hbl
       omega
   · exact(r₁.im b hb).2 (aG.2 ⟨j,n,ob₁,news q1 h1,q1⟩)
 · rcases s₁.fresh b hb with(h5 | ⟨o,m,ob',h5,h6,h7⟩) | h5 | h5
   · exact .inl h5
   · exact .inr (.inl (aG.2 ⟨o,m,ob',h7,h6⟩))
   · exact .inr (.inl (hl₀ b h5))
   · exact .inr (.inr h5)
 · have e0:=he e'
   refine s₁.ext.mono fun b hb=>?_;rw[e0] at hb;simp[live] at hb
theorem Bc {f:FuncId} {vs:List V} {args:List Value} {w:World} {u:V} {Q:V→St→Prop} (h:Fn P f vs [] Q) (hr:bh w (fun b=>b<w.heap.size) [] vs args) (hq:∀u s,Q u s→u=.lit (.bool true)) (hlay:nB w (fun b=>b<w.heap.size)):
 vC P f args w fun v w'=>v=.bool true∧Ext [] w w':=by
 have r:Rel [] (fun b=>b<w.heap.size) [] w:=⟨rfl,fun o ob h=>by simp at h,fun o o' ob ob' b n n' h=>by simp at h,fun b hb=>⟨hb,by simp[live]⟩,hlay⟩;refine(h.2 [] _ w args r hr).mono ?_;rintro v w' ⟨u,σ',μ',Im',h1,h2,h3,h4,h5⟩;have e:=hq _ _ h5;subst e
 cases h4
 exact⟨rfl,h2.ext.mono fun b hb=>by simp[live] at hb⟩
end
end Go.Vx
