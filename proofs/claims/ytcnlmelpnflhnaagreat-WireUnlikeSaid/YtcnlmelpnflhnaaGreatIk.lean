import Derived.Test.YtcnlmelpnflhnaaGreatAb
import Derived.Test.YtcnlmelpnflhnaaGreatOb
import Derived.Test.YtcnlmelpnflhnaaGreatFw
import Derived.Test.YtcnlmelpnflhnaaGreatHc
namespace Go.Proofs.YtcnlmelpnflhnaaGreat
open Go.Eng Go.Vx
set_option linter.unusedSimpArgs false
set_option linter.unusedVariables false
set_option maxRecDepth 100000
theorem yx {L:List Bool} {a b g p:Nat} (hg:0<g):ni L (g*a) (g*b) p=ni L a b p:=by
 unfold ni;rw[Nat.mul_mod_mul_left,Nat.mul_div_mul_left _ _ hg,qc hg]
theorem r7 {L:List Bool} {A B p:Nat} (hB:B≠0):ni L (((A:Int):Rat)/((B:Int):Rat)).num.natAbs (((A:Int):Rat)/((B:Int):Rat)).den p=ni L A B p:=by
 have h:=oK (p:=(A:Int)) (q:=(B:Int)) zo;rw[agq (show¬(A:Int)<0 by omega),agq (show¬(B:Int)<0 by omega)] at h;rw[←h,ahe,ahe];show ni L (mkRat (A:Int) B).num.natAbs (mkRat (A:Int) B).den p=_;rw[er hB,gI hB,jQ,ahe];have hg:0<Nat.gcd A B:=Nat.gcd_pos_of_pos_right _ zo;have h2:=yx (L:=L) (a:=A/Nat.gcd A B) (b:=B/Nat.gcd A B) (p:=p) hg;rw[Nat.mul_div_cancel' (aiO A B),Nat.mul_div_cancel' (Nat.gcd_dvd_right A B)] at h2;exact h2.symm
theorem nU {A B:Nat} (hB:B≠0) (hA:A≤1099511627776):¬((A:Int):Rat)/((B:Int):Rat)<0∧¬((1099511627776:Int):Rat)<((A:Int):Rat)/((B:Int):Rat):=by
 have hB':(0:Rat)<((B:Int):Rat):=Rat.intCast_pos.2 zo;constructor
 · rw[Rat.not_lt,←Rat.num_nonneg]
   have:=vE (A:=A) hB
   omega
 · rw[Rat.lt_div_iff hB',←Rat.intCast_mul,Rat.intCast_lt_intCast]
   have:=ahl 1099511627776 (show 1≤B by omega)
   omega
theorem s9 {L:List Bool} {P D p:Nat} (hL:L.length≤1048576) (hD:¬(D=0∨D<P)) (hPD:P≠D) (hP:(wg P).length≤500000) (hD1:(wg D).length≤500000):aC Tryz.prog 189 [.ref 0 0 0 0,NV P,NV D] [some (aX L p true)]
 (.tup [.lit (.bool false),.lit (.int .i64 (if P=0 then 0 else 8))]) [some (aX L p true)]:=by
 refine zF pl Tryz.call189 Tryz.func189 [.tmp 6,.tmp 7] fun Q hQ=>?_;refine ae ?_;refine az (oC (P:=P) (D:=D) zo zo) rfl rfl ?_;rw[agC hD];refine ae ?_;refine az (du (n:=P) zo) rfl rfl ?_
 by_cases h2:P=0
 · rw[agC h2]
   rw[if_pos h2] at hQ;exact zE [some 0] hQ
 · rw[agq h2]
   rw[if_neg h2] at hQ;refine ae ?_
   refine aU (X:=Unit) (st:=fun z=>([(0,.ref 0 0 0 0),(4,.ref 1 0 0 0),(5,.ref 2 0 0 0),(8,.ref 3 0 0 0)],[some (aX L p true),some (.cells [.row 1 ((nl (wg P)).map (ie .u64))]),some (.cells [.row 1 ((nl (wg D)).map (ie .u64))]),some (.cells [.row 1 ((nl (wg P)).map (ie .u64))])]))
    (inv:=fun _=>True) (m:=fun _=>0) () [some 0,some 1,some 2,some 3] trivial ?_
   intro _ _;have hc:=eN.2 (show P<D by omega);refine ae ?_;refine az (eR (a:=P) (b:=D) zo zo) rfl rfl ?_;refine bh (agC hc) ?_;refine zW [some 0] [] (fM (L:=L) (p:=p) (d:=true) hL (.inl rfl)) ?_;exact ak [some 0] hQ
theorem BZ {L:List Bool} {p Y:Nat} (hL:L.length≤1048576) (hY:Y<9223372036854775807):aC Tryz.prog 194 [.ref 0 0 0 0,.lit (.int .i64 (Y:Int))] [some (aX L p true)]
 (.tup [.lit (.int .i64 0),.lit (.int .i64 (if Y=0 then 0 else 8))]) [some (aX L p true)]:=by
 refine zF pl Tryz.call194 Tryz.func194 [.tmp 4,.tmp 5] fun Q hQ=>?_;have hy:max 0 (Y:Int)=(Y:Int):=by omega
 refine bh hy ?_
 refine aU (X:=Unit) (st:=fun i=>([(0,.ref 0 0 0 0),(6,.lit (.int .i64 0)),(10,.lit (.int .i64 (Y:Int))),(11,.lit (.int .i64 0))],[some (aX L p true)]))
  (inv:=fun i=>True) (m:=fun i=>0) () [some 0] trivial ?_
 intro _ _
 by_cases h:Y=0
 · rw[if_pos h] at hQ
   exact zE [some 0] hQ
 · rw[if_neg h] at hQ
   refine ae ?_;refine zW [some 0] [] (fM (L:=L) (p:=p) (d:=true) hL (.inl rfl)) ?_;exact ak [some 0] hQ
theorem Mz {L:List Bool} {p Y:Nat} (d:Bool) (hL:L.length≤1048576) (hp:p≤L.length) (hY:Y≤1000):∃(b:Nat) (f:Int) (q:Nat) (d':Bool),aC Tryz.prog 194 [.ref 0 0 0 0,.lit (.int .i64 (Y:Int))] [some (aX L p d)] (.tup [.lit (.int .i64 (b:Int)),.lit (.int .i64 f)]) [some (aX L q d')]∧b≤Y∧q≤L.length∧(f=0∧d'=d∧(d=true→Y=0)∨f=8∧d'=true∧0<Y):=by
 cases d with
 | true=>
   have h:=BZ (L:=L) (p:=p) (Y:=Y) hL zo;refine⟨0,_,p,true,h,agM _,hp,?_⟩
   by_cases h0:Y=0
   · exact .inl ⟨if_pos h0,rfl,fun _=>h0⟩
   · exact .inr ⟨if_neg h0,rfl,by omega⟩
 | false=>
   have h:=Fw (L:=L) (p:=p) (Y:=Y) (y:=(Y:Int)) hL hp zo zo;have hc:=GW ((L.drop p).take Y);rw[agz] at hc
   by_cases h0:p+Y≤L.length
   · have e:zj L Y p=_:=if_pos h0
     rw[e] at h;exact⟨_,_,_,_,h,by omega,h0,.inl ⟨rfl,rfl,fun h=>by cases h⟩⟩
   · have e:zj L Y p=_:=if_neg h0
     rw[e] at h;exact⟨0,_,_,_,h,agM _,agt _,.inr ⟨rfl,rfl,by omega⟩⟩
def bK (k a b:Nat) (l:List SR):Nat:=bF (wd k a b) (l.map (jx k a b))
def lQ (k a b C:Nat) (l:List SR):PV:=.ptr 4 [[.ptr 3 [[.row 1 ((words (aZ C (wd k a b)) (bK k a b l)).map (ie .u64)),.lit (.int .i64 (C:Int)),.lit (.int .i64 (wd k a b:Int))]] 0 0,.lit (.int .i64 (k:Int)),.lit (.int .i64 (a:Int)),.lit (.int .i64 (b:Int))]] 0 0
def crF (k a b n:Nat) (r:Option (List SR)×Nat×Int):V:=match r.1 with
 | some l=>.tup [kp k a b n (wd k a b) (bK k a b l),.lit (.int .i64 0)]
 | none=>.tup [.lit (.pointer none),.lit (.int .i64 r.2.2)]
def il (k a b C:Nat) (r:RW):List PV:=[.lit (.int .u64 (r.1:Int)),.lit (.int .u64 (r.2.1:Int)),lQ k a b C r.2.2]
def jv (R C k a b:Nat) (l:List RW) (T:Nat):Ob:=.cells [.lit (.int .i64 (R:Int)),.lit (.int .i64 (C:Int)),.lit (.int .i64 (k:Int)),.lit (.int .i64 (a:Int)),.lit (.int .i64 (b:Int)),.row 3 (l.map (il k a b C)),.lit (.int .i64 (T:Int))]
def rB (R C k a b:Nat) (l:List RW) (T:Nat):V:=.rref 7 [[.lit (.int .i64 (R:Int)),.lit (.int .i64 (C:Int)),.lit (.int .i64 (k:Int)),.lit (.int .i64 (a:Int)),.lit (.int .i64 (b:Int)),.row 3 (l.map (il k a b C)),.lit (.int .i64 (T:Int))]] 0 0
attribute [go_sem] jv rB
def cmV (r:Option (List RW×Nat)×Nat×Int):V:=match r.1 with
 | some _=>.tup [.ref 1 0 0 0,.lit (.int .i64 0)]
 | none=>.tup [.lit (.pointer none),.lit (.int .i64 r.2.2)]
def cmS (R C k a b:Nat) (B:List Int) (r:Option (List RW×Nat)×Nat×Int):St:=match r.1 with
 | some x=> [some (nB B r.2.1),some (jv R C k a b x.1 x.2)]
 | none=> [some (nB B r.2.1)]
open Go.Eng
structure PB (P:SP):Prop where
 m1:1≤P.m
 m2:P.m≤65535
 d1:1≤P.d
 d2:P.d≤15
 s1:1≤P.s
 s2:P.s≤8
def xd (P:SP) (c:Cell):Prop:=c.1≤P.m∧c.2≤P.d∧(c.1=0→c.2=0)
structure SOk (P:SP) (st:SS):Prop where
 c:∀c∈st.1,xd P c
 s1:1≤st.2.1
 s2:st.2.1≤P.s
 f:st.2.2=true→st.2.1=P.s
theorem Ol (b:Bool):bit b≤1:=by cases b<;>decide
theorem qH (n k:Nat):(eI n k).all (fun a=>a≤n/2^k+1∧(n%2^k=0→a=n/2^k)∧n/2^k≤a):=by
 unfold eI
 by_cases h:n%2^k=0
 · rw[if_pos h]
   exact⟨Nat.le_succ _,fun _=>rfl,agt _⟩
 · rw[if_neg h,all_bind]
   refine all_true fun b=>⟨?_,fun e=>absurd e h,?_⟩
   · have:=Ol b
     show n/2^k+bit b≤_;omega
   · exact ahC _ _
theorem jZ {P:SP} {v s:Nat}:∀{f m:Nat},f+m=P.d→ba P v s f m≤P.d∧m≤ba P v s f m∧(ba P v s f m<P.d→v/2^(s*ba P v s f m)≤P.m)∧(∀j,m≤j→v/2^(s*j)≤P.m→ba P v s f m≤j):=by
 intro f
 induction f with
 | zero=>
   intro m h;unfold ba;exact⟨by omega,agt _,fun h2=>by omega,fun j hj _=>hj⟩
 | succ f ih=>
   intro m h;unfold ba
   by_cases hc:m<P.d∧P.m<v/2^(s*m)
   · rw[if_pos hc]
     obtain ⟨a,b,c,d⟩:=ih (m:=m+1) zo;refine⟨a,by omega,c,fun j hj hv=>d j ?_ hv⟩
     by_cases e:j=m
     · subst e;omega
     · omega
   · rw[if_neg hc]
     refine⟨by omega,agt _,fun h2=>?_,fun j hj _=>hj⟩
     by_cases h3:P.m<v/2^(s*m)
     · exact absurd ⟨h2,h3⟩ hc
     · omega
theorem I4 (c:Cell) (w:Nat):gS c w/2^((w+1)*c.2)=c.1/2^c.2:=by
 unfold gS;rw[agH,ahH,ahq,←ahs,Nat.mul_div_cancel _ (agV zd)]
theorem xQ (c:Cell) {w m:Nat} (h:c.2≤m):gS c w/2^((w+1)*m)≤c.1/2^m:=by
 unfold gS;rw[show(w+1)*m=w*c.2+(w*(m-c.2)+m) by rw[agH,ahH,Nat.mul_sub];have:=ahl w h;omega];rw[ahq,←ahs,Nat.mul_div_cancel _ (agV zd),ahq];have h1:0<2^(w*(m-c.2)):=agV zd;have h2:0<2^m:=agV zd;rw[←ahs];exact Nat.div_le_div_right (ahv _ _)
theorem Aq {P:SP} {v s:Nat}:(DR P v s).all (fun c=>c.2=ba P v s P.d 0∧c.1≤v/2^(s*ba P v s P.d 0)+1∧(v%2^(s*ba P v s P.d 0)=0→c.1=v/2^(s*ba P v s P.d 0))):=by
 unfold DR;rw[all_bind];exact bC (fun a h=>⟨rfl,h.1,h.2.1⟩) (qH _ _)
theorem z5 (c:Cell) (s:Nat):(Ee c s).all (fun x=>x.2=c.2+1∧x.1≤c.1/2^s+1):=by
 unfold Ee;rw[all_bind];exact bC (fun a h=>⟨rfl,h.1⟩) (qH _ _)
theorem lN {a k:Nat} (hk:1≤k):a/2^k≤a/2:=by
 obtain ⟨j,rfl⟩:∃j,k=j+1:=⟨k-1,by omega⟩;rw[agS,agK,←ahs];exact ahv _ _
theorem wF {a k:Nat} (hk:2≤k):a/2^k≤a/4:=by
 obtain ⟨j,rfl⟩:∃j,k=j+2:=⟨k-2,by omega⟩;rw[show 2^(j+2)=4*2^j by rw[ahq];omega,←ahs];exact ahv _ _
theorem EY {P:SP} {c:Cell} {w:Nat} (hc:c.1≤P.m) (hd:c.2≤P.d):ba P (gS c w) (w+1) P.d 0≤c.2∧gS c w/2^((w+1)*ba P (gS c w) (w+1) P.d 0)≤P.m∧
 (ba P (gS c w) (w+1) P.d 0=c.2→gS c w/2^((w+1)*ba P (gS c w) (w+1) P.d 0)=c.1/2^c.2):=by
 obtain ⟨a,-,b,d⟩:=jZ (P:=P) (v:=gS c w) (s:=w+1) (f:=P.d) (m:=0) zo;have e:=I4 c w;have h1:c.1/2^c.2≤P.m:=agI (ahv _ _) hc;have h2:=d c.2 (agM _) (by rw[e];exact h1);generalize ba P (gS c w) (w+1) P.d 0=r at*
 refine⟨h2,?_,fun hr=>by rw[hr];exact e⟩
 by_cases hr:r<P.d
 · exact b hr
 · rw[show r=c.2 by omega,e];exact h1
theorem Ak {P:SP} (hP:PB P) {c:Cell} {w:Nat} (hw:1≤w) (hc:xd P c):(IQ P w c).all (fun x=>x.1≤P.m∧x.2≤P.d):=by
 obtain ⟨h1,h2,-⟩:=hc;obtain ⟨a,b,e⟩:=EY (w:=w) h1 h2;have hm:=hP.m1;unfold IQ;rw[all_bind];refine bC (fun x hx=>?_) Aq;obtain ⟨x1,x2,x3⟩:=hx;generalize ba P (gS c w) (w+1) P.d 0=r at*
 by_cases hx:P.m<x.1
 · rw[if_pos hx]
   have hr:r<c.2:=by
    by_cases hr:r<c.2
    · exact hr
    · exfalso
      have hrc:r=c.2:=by omega
      have e2:=e hrc;rw[e2] at x2 x3
      by_cases h0:c.2=0
      · rw[h0] at x3 hrc
        subst hrc;rw[aiy,aiP,Nat.mod_one,Nat.div_one] at x3
        have:=x3 rfl
        omega
      · have:=lN (a:=c.1) (k:=c.2) zo
        omega
   refine bC (fun y hy=>?_) (z5 x (w+1))
   have:=wF (a:=x.1) (k:=w+1) zo
   exact⟨by omega,by omega⟩
 · rw[if_neg hx]
   exact⟨by omega,by omega⟩
theorem oO {P:SP} {c:Cell} (h1:c.1≤P.m) (h2:c.2≤P.d):xd P (fT c):=by
 unfold fT xd
 split
 · exact⟨h1,by simp,fun _=>rfl⟩
 · rename_i h
   exact⟨h1,h2,fun e=>absurd e h⟩
theorem NQ {P:SP} (hP:PB P) {own:Cell} {w:Nat} (hd:own.2≤P.d) (hm:P.m<own.1):(DR P (gS own w) (w+1)).all (fun o=>o.2≤P.d∧o.1≤own.1):=by
 obtain ⟨a,-,b,d⟩:=jZ (P:=P) (v:=gS own w) (s:=w+1) (f:=P.d) (m:=0) zo;have hm1:=hP.m1;have hd1:=hP.d1;refine bC (fun x hx=>?_) Aq;obtain ⟨x1,x2,x3⟩:=hx;generalize ba P (gS own w) (w+1) P.d 0=r at*
 refine⟨by omega,?_⟩
 by_cases hr:r<P.d
 · have:=b hr
   omega
 · have h3:=xQ own (w:=w) (m:=r) zo
   have h4:=lN (a:=own.1) (k:=r) zo;omega
theorem AW {P:SP} (hP:PB P) {w:Nat} (hw:1≤w) (i:Int):∀(cs:List Cell) (k:Nat) (own:Cell),(∀c∈cs,xd P c)→(0≤i→own.2≤P.d∧P.m<own.1)→
 (iD P w i cs k own).all (fun r=>(∀c∈r.1,xd P c)∧(0≤i→r.2.2≤P.d∧r.2.1≤own.1)):=by
 intro cs
 induction cs with
 | nil=>intro k own _ h;exact⟨by simp,fun hi=>⟨(h hi).1,agt _⟩⟩
 | cons c cs ih=>
   intro k own hcs hown;unfold iD
   by_cases hk:(k:Int)=i
   · rw[if_pos hk,all_bind]
     have hi:0≤i:=by omega
     refine bC (fun o ho=>?_) (NQ hP (w:=w) (hown hi).1 (hown hi).2);rw[all_bind];have hc0:=hcs c (by simp);have hst:=(tz P w i cs (k+1) o).2.2.1 (fun j hj=>by omega)
     have hce:∀(cs:List Cell) (k:Nat) (own:Cell),(∀c∈cs,xd P c)→((i:Int)<k)→(iD P w i cs k own).all (fun r=>∀c∈r.1,xd P c):=by
      intro cs
      induction cs with
      | nil=>intro k own _ _;exact by simp[iD,DT.all]
      | cons c cs ih2=>
        intro k own hcs hik;unfold iD;rw[if_neg zo,all_bind];refine bC (fun c1 h1=>?_) (Ak hP hw (hcs c (by simp)));rw[all_bind];refine bC (fun r hr=>?_) (ih2 (k+1) own (fun x hx=>hcs x (by simp[hx])) zo);intro x hx;rcases agG.1 hx with e | e
        · rw[e];exact oO h1.1 h1.2
        · exact hr x e
     refine bC (fun r hr=>?_) (th hst (hce cs (k+1) o (fun x hx=>hcs x (by simp[hx])) zo));refine⟨fun x hx=>?_,fun _=>?_⟩
     · rcases agG.1 hx with e | e
       · rw[e];exact hc0
       · exact hr.2 x e
     · show r.2.2≤_∧r.2.1≤_
       rw[hr.1];exact ho
   · rw[if_neg hk,all_bind]
     refine bC (fun c1 h1=>?_) (Ak hP hw (hcs c (by simp)));rw[all_bind];refine bC (fun r hr=>?_) (ih (k+1) own (fun x hx=>hcs x (by simp[hx])) hown);refine⟨fun x hx=>?_,hr.2⟩;rcases agG.1 hx with e | e
     · rw[e];exact oO h1.1 h1.2
     · exact hr.1 x e
def need (P:SP) (s m:Nat):Nat:=(P.s-s)*(P.d+2)+(P.d-m)+1
theorem w5 {l:List Cell} {i:Nat} {c x:Cell} (h:x∈l.set i c):x=c∨x∈l:=by
 rcases aiq h with h | h
 · exact .inr h
 · exact .inl h
theorem Ep {P:SP} (hP:PB P) (i:Nat):∀(f:Nat) (st:SS) (c:Cell),SOk P st→c.2≤P.d→need P st.2.1 c.2≤f→
 (fO P i f st c).all (fun r=>SOk P r∧st.2.1≤r.2.1∧(st.2.2=true→r.2.2=true)):=by
 intro f
 induction f with
 | zero=>intro st c _ _ h;unfold need at h;omega
 | succ f ih=>
   intro st c hs hc hf;unfold need at hf;unfold fO
   by_cases h1:c.1≤P.m
   · rw[if_pos h1]
     refine⟨⟨fun x hx=>?_,hs.s1,hs.s2,hs.f⟩,agt _,fun h=>h⟩;rcases w5 hx with e | e
     · rw[e];exact oO h1 hc
     · exact hs.c x e
   · rw[if_neg h1]
     by_cases h2:c.2<P.d
     · rw[if_pos h2,all_bind]
       refine bC (fun c1 h=>ih st c1 hs zo ?_) (z5 c st.2.1);unfold need;omega
     · rw[if_neg h2]
       by_cases h3:st.2.1<P.s
       · rw[if_pos h3,all_bind]
         refine bC (fun r hr=>?_) (AW hP hs.s1 i st.1 0 c hs.c (fun _=>⟨hc,by omega⟩));have hr2:=hr.2 zo
         have hn:need P (st.2.1+1) r.2.2≤f:=by
          unfold need
          have:(P.s-st.2.1)*(P.d+2)=(P.s-(st.2.1+1))*(P.d+2)+(P.d+2):=by
           rw[show P.s-st.2.1=P.s-(st.2.1+1)+1 by omega,agH,ahH]
          omega
         refine bC (fun q hq=>⟨hq.1,?_,hq.2.2⟩) (ih (r.1,st.2.1+1,st.2.2) r.2 ⟨hr.1,Nat.le_succ_of_le hs.s1,h3,fun h=>?_⟩ hr2.1 hn)
         · have:=hq.2.1
           simp only[] at this;omega
         · have:=hs.f h
           omega
       · rw[if_neg h3]
         refine⟨⟨fun x hx=>?_,hs.s1,hs.s2,fun _=>by have:=hs.s2;simp only[] at*;omega⟩,agt _,fun _=>rfl⟩;rcases w5 hx with e | e
         · rw[e];exact oO (agt _) hc
         · exact hs.c x e
theorem Az (P:SP) (s m:Nat):need P s m≤px P s m:=by unfold need px;omega
theorem Aj {P:SP} {l:List Cell} (h:∀c∈l,xd P c) (i:Nat):xd P (l.getD i (0,0)):=by
 rw[ago]
 cases e:l[i]? with
 | none=>exact⟨agM _,agM _,fun _=>rfl⟩
 | some c=>exact h c (ahc e)
theorem Fo {P:SP} (hP:PB P) (st:SS) (i n:Nat) (hs:SOk P st):(rz P st i n).all (fun r=>SOk P r∧st.2.1≤r.2.1∧(st.2.2=true→r.2.2=true)):=by
 unfold rz;rw[all_bind];have h2:=(Aj hs.c i).2.1;generalize st.1.getD i (0,0)=c0 at*
 exact all_true fun a=>Ep hP i _ st (c0.1+a,c0.2) hs h2 (Az _ _ _)
end Go.Proofs.YtcnlmelpnflhnaaGreat
