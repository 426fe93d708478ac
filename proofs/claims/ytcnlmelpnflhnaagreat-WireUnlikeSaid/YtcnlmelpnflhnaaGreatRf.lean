import Derived.Test.YtcnlmelpnflhnaaGreatIc
import Derived.Test.YtcnlmelpnflhnaaGreatHa
import Derived.Test.YtcnlmelpnflhnaaGreatFw
import Derived.Test.YtcnlmelpnflhnaaGreatHb
import Derived.Test.YtcnlmelpnflhnaaGreatFb
namespace Go.Proofs.YtcnlmelpnflhnaaGreat
open Go.Eng Go.Vx
set_option linter.unusedSimpArgs false
set_option linter.unusedVariables false
set_option maxRecDepth 100000
theorem AM {L:List Bool} {a b g p:Nat} (hg:0<g):oz L (g*a) (g*b) p=oz L a b p:=by
 unfold oz;rw[Nat.mul_mod_mul_left,Nat.mul_div_mul_left _ _ hg,rH hg]
theorem tS {L:List Bool} {A B p:Nat} (hB:B≠0):oz L (((A:Int):Rat)/((B:Int):Rat)).num.natAbs (((A:Int):Rat)/((B:Int):Rat)).den p=oz L A B p:=by
 have h:=pZ (p:=(A:Int)) (q:=(B:Int)) zo;rw[ajn (show¬(A:Int)<0 by omega),ajn (show¬(B:Int)<0 by omega)] at h;rw[←h,akd,akd];show oz L (mkRat (A:Int) B).num.natAbs (mkRat (A:Int) B).den p=_;rw[eR hB,iw hB,kB,akd];have hg:0<Nat.gcd A B:=Nat.gcd_pos_of_pos_right _ zo;have h2:=AM (L:=L) (a:=A/Nat.gcd A B) (b:=B/Nat.gcd A B) (p:=p) hg;rw[Nat.mul_div_cancel' (alP A B),Nat.mul_div_cancel' (Nat.gcd_dvd_right A B)] at h2;exact h2.symm
theorem pf {A B:Nat} (hB:B≠0) (hA:A≤1099511627776):¬((A:Int):Rat)/((B:Int):Rat)<0∧¬((1099511627776:Int):Rat)<((A:Int):Rat)/((B:Int):Rat):=by
 have hB':(0:Rat)<((B:Int):Rat):=Rat.intCast_pos.2 zo;constructor
 · rw[Rat.not_lt,←Rat.num_nonneg]
   have:=xK (A:=A) hB
   omega
 · rw[Rat.lt_div_iff hB',←Rat.intCast_mul,Rat.intCast_lt_intCast]
   have:=akk 1099511627776 (show 1≤B by omega)
   omega
theorem uQ {L:List Bool} {P D p:Nat} (hL:L.length≤1048576) (hD:¬(D=0∨D<P)) (hPD:P≠D) (hP:(wg P).length≤500000) (hD1:(wg D).length≤500000):aA Tryz.prog 189 [.ref 0 0 0 0,NV P,NV D] [some (bt L p true)]
 (.tup [.lit (.bool false),.lit (.int .i64 (if P=0 then 0 else 8))]) [some (bt L p true)]:=by
 refine zF pl Tryz.call189 Tryz.func189 [.tmp 6,.tmp 7] fun Q hQ=>?_;refine ae ?_;refine aB (pT (P:=P) (D:=D) zo zo) rfl rfl ?_;rw[aju hD];refine ae ?_;refine aB (dM (n:=P) zo) rfl rfl ?_
 by_cases h2:P=0
 · rw[aju h2]
   rw[if_pos h2] at hQ;exact zE [some 0] hQ
 · rw[ajn h2]
   rw[if_neg h2] at hQ;refine ae ?_
   refine aR (X:=Unit) (st:=fun z=>([(0,.ref 0 0 0 0),(4,.ref 1 0 0 0),(5,.ref 2 0 0 0),(8,.ref 3 0 0 0)],[some (bt L p true),some (.cells [.row 1 ((nl (wg P)).map (ie .u64))]),some (.cells [.row 1 ((nl (wg D)).map (ie .u64))]),some (.cells [.row 1 ((nl (wg P)).map (ie .u64))])]))
    (inv:=fun _=>True) (m:=fun _=>0) () [some 0,some 1,some 2,some 3] trivial ?_
   intro _ _;have hc:=fi.2 (show P<D by omega);refine ae ?_;refine aB (fq (a:=P) (b:=D) zo zo) rfl rfl ?_;refine br (aju hc) ?_;refine zW [some 0] [] (gw (L:=L) (p:=p) (d:=true) hL (.inl rfl)) ?_;exact ak [some 0] hQ
theorem Eg {L:List Bool} {p Y:Nat} (hL:L.length≤1048576) (hY:Y<9223372036854775807):aA Tryz.prog 194 [.ref 0 0 0 0,.lit (.int .i64 (Y:Int))] [some (bt L p true)]
 (.tup [.lit (.int .i64 0),.lit (.int .i64 (if Y=0 then 0 else 8))]) [some (bt L p true)]:=by
 refine zF pl Tryz.call194 Tryz.func194 [.tmp 4,.tmp 5] fun Q hQ=>?_;have hy:max 0 (Y:Int)=(Y:Int):=by omega
 refine br hy ?_
 refine aR (X:=Unit) (st:=fun i=>([(0,.ref 0 0 0 0),(6,.lit (.int .i64 0)),(10,.lit (.int .i64 (Y:Int))),(11,.lit (.int .i64 0))],[some (bt L p true)]))
  (inv:=fun i=>True) (m:=fun i=>0) () [some 0] trivial ?_
 intro _ _
 by_cases h:Y=0
 · rw[if_pos h] at hQ
   exact zE [some 0] hQ
 · rw[if_neg h] at hQ
   refine ae ?_;refine zW [some 0] [] (gw (L:=L) (p:=p) (d:=true) hL (.inl rfl)) ?_;exact ak [some 0] hQ
theorem Ph {L:List Bool} {p Y:Nat} (d:Bool) (hL:L.length≤1048576) (hp:p≤L.length) (hY:Y≤1000):∃(b:Nat) (f:Int) (q:Nat) (d':Bool),aA Tryz.prog 194 [.ref 0 0 0 0,.lit (.int .i64 (Y:Int))] [some (bt L p d)] (.tup [.lit (.int .i64 (b:Int)),.lit (.int .i64 f)]) [some (bt L q d')]∧b≤Y∧q≤L.length∧(f=0∧d'=d∧(d=true→Y=0)∨f=8∧d'=true∧0<Y):=by
 cases d with
 | true=>
   have h:=Eg (L:=L) (p:=p) (Y:=Y) hL zo;refine⟨0,_,p,true,h,ajH _,hp,?_⟩
   by_cases h0:Y=0
   · exact .inl ⟨if_pos h0,rfl,fun _=>h0⟩
   · exact .inr ⟨if_neg h0,rfl,by omega⟩
 | false=>
   have h:=HE (L:=L) (p:=p) (Y:=Y) (y:=(Y:Int)) hL hp zo zo;have hc:=I1 ((L.drop p).take Y);rw[ajt] at hc
   by_cases h0:p+Y≤L.length
   · have e:BJ L Y p=_:=if_pos h0
     rw[e] at h;exact⟨_,_,_,_,h,by omega,h0,.inl ⟨rfl,rfl,fun h=>by cases h⟩⟩
   · have e:BJ L Y p=_:=if_neg h0
     rw[e] at h;exact⟨0,_,_,_,h,ajH _,ajp _,.inr ⟨rfl,rfl,by omega⟩⟩
open Go.Eng
structure PB (P:SP):Prop where
 m1:1≤P.m
 m2:P.m≤65535
 d1:1≤P.d
 d2:P.d≤15
 s1:1≤P.s
 s2:P.s≤8
def ze (P:SP) (c:Cell):Prop:=c.1≤P.m∧c.2≤P.d∧(c.1=0→c.2=0)
structure SOk (P:SP) (st:SS):Prop where
 c:∀c∈st.1,ze P c
 s1:1≤st.2.1
 s2:st.2.1≤P.s
 f:st.2.2=true→st.2.1=P.s
theorem Rb (b:Bool):bit b≤1:=by cases b<;>decide
theorem so (n k:Nat):(fc n k).all (fun a=>a≤n/2^k+1∧(n%2^k=0→a=n/2^k)∧n/2^k≤a):=by
 unfold fc
 by_cases h:n%2^k=0
 · rw[if_pos h]
   exact⟨Nat.le_succ _,fun _=>rfl,ajp _⟩
 · rw[if_neg h,all_bind]
   refine all_true fun b=>⟨?_,fun e=>absurd e h,?_⟩
   · have:=Rb b
     show n/2^k+bit b≤_;omega
   · exact akB _ _
theorem kO {P:SP} {v s:Nat}:∀{f m:Nat},f+m=P.d→bz P v s f m≤P.d∧m≤bz P v s f m∧(bz P v s f m<P.d→v/2^(s*bz P v s f m)≤P.m)∧(∀j,m≤j→v/2^(s*j)≤P.m→bz P v s f m≤j):=by
 intro f
 induction f with
 | zero=>
   intro m h;unfold bz;exact⟨by omega,ajp _,fun h2=>by omega,fun j hj _=>hj⟩
 | succ f ih=>
   intro m h;unfold bz
   by_cases hc:m<P.d∧P.m<v/2^(s*m)
   · rw[if_pos hc]
     obtain ⟨a,b,c,d⟩:=ih (m:=m+1) zo;refine⟨a,by omega,c,fun j hj hv=>d j ?_ hv⟩
     by_cases e:j=m
     · subst e;omega
     · omega
   · rw[if_neg hc]
     refine⟨by omega,ajp _,fun h2=>?_,fun j hj _=>hj⟩
     by_cases h3:P.m<v/2^(s*m)
     · exact absurd ⟨h2,h3⟩ hc
     · omega
theorem Ly (c:Cell) (w:Nat):iG c w/2^((w+1)*c.2)=c.1/2^c.2:=by
 unfold iG;rw[ajG,akH,ako,←akp,Nat.mul_div_cancel _ (ajV zd)]
theorem Aa (c:Cell) {w m:Nat} (h:c.2≤m):iG c w/2^((w+1)*m)≤c.1/2^m:=by
 unfold iG;rw[show(w+1)*m=w*c.2+(w*(m-c.2)+m) by rw[ajG,akH,Nat.mul_sub];have:=akk w h;omega];rw[ako,←akp,Nat.mul_div_cancel _ (ajV zd),ako];have h1:0<2^(w*(m-c.2)):=ajV zd;have h2:0<2^m:=ajV zd;rw[←akp];exact Nat.div_le_div_right (aks _ _)
theorem CE {P:SP} {v s:Nat}:(F5 P v s).all (fun c=>c.2=bz P v s P.d 0∧c.1≤v/2^(s*bz P v s P.d 0)+1∧(v%2^(s*bz P v s P.d 0)=0→c.1=v/2^(s*bz P v s P.d 0))):=by
 unfold F5;rw[all_bind];exact bQ (fun a h=>⟨rfl,h.1,h.2.1⟩) (so _ _)
theorem Cf (c:Cell) (s:Nat):(Gm c s).all (fun x=>x.2=c.2+1∧x.1≤c.1/2^s+1):=by
 unfold Gm;rw[all_bind];exact bQ (fun a h=>⟨rfl,h.1⟩) (so _ _)
theorem mU {a k:Nat} (hk:1≤k):a/2^k≤a/2:=by
 obtain ⟨j,rfl⟩:∃j,k=j+1:=⟨k-1,by omega⟩;rw[ajS,ajJ,←akp];exact aks _ _
theorem yL {a k:Nat} (hk:2≤k):a/2^k≤a/4:=by
 obtain ⟨j,rfl⟩:∃j,k=j+2:=⟨k-2,by omega⟩;rw[show 2^(j+2)=4*2^j by rw[ako];omega,←akp];exact aks _ _
theorem G8 {P:SP} {c:Cell} {w:Nat} (hc:c.1≤P.m) (hd:c.2≤P.d):bz P (iG c w) (w+1) P.d 0≤c.2∧iG c w/2^((w+1)*bz P (iG c w) (w+1) P.d 0)≤P.m∧
 (bz P (iG c w) (w+1) P.d 0=c.2→iG c w/2^((w+1)*bz P (iG c w) (w+1) P.d 0)=c.1/2^c.2):=by
 obtain ⟨a,-,b,d⟩:=kO (P:=P) (v:=iG c w) (s:=w+1) (f:=P.d) (m:=0) zo;have e:=Ly c w;have h1:c.1/2^c.2≤P.m:=ajD (aks _ _) hc;have h2:=d c.2 (ajH _) (by rw[e];exact h1);generalize bz P (iG c w) (w+1) P.d 0=r at*
 refine⟨h2,?_,fun hr=>by rw[hr];exact e⟩
 by_cases hr:r<P.d
 · exact b hr
 · rw[show r=c.2 by omega,e];exact h1
theorem Cx {P:SP} (hP:PB P) {c:Cell} {w:Nat} (hw:1≤w) (hc:ze P c):(Ln P w c).all (fun x=>x.1≤P.m∧x.2≤P.d):=by
 obtain ⟨h1,h2,-⟩:=hc;obtain ⟨a,b,e⟩:=G8 (w:=w) h1 h2;have hm:=hP.m1;unfold Ln;rw[all_bind];refine bQ (fun x hx=>?_) CE;obtain ⟨x1,x2,x3⟩:=hx;generalize bz P (iG c w) (w+1) P.d 0=r at*
 by_cases hx:P.m<x.1
 · rw[if_pos hx]
   have hr:r<c.2:=by
    by_cases hr:r<c.2
    · exact hr
    · exfalso
      have hrc:r=c.2:=by omega
      have e2:=e hrc;rw[e2] at x2 x3
      by_cases h0:c.2=0
      · rw[h0] at x3 hrc
        subst hrc;rw[alB,alQ,Nat.mod_one,Nat.div_one] at x3
        have:=x3 rfl
        omega
      · have:=mU (a:=c.1) (k:=c.2) zo
        omega
   refine bQ (fun y hy=>?_) (Cf x (w+1))
   have:=yL (a:=x.1) (k:=w+1) zo
   exact⟨by omega,by omega⟩
 · rw[if_neg hx]
   exact⟨by omega,by omega⟩
theorem p9 {P:SP} {c:Cell} (h1:c.1≤P.m) (h2:c.2≤P.d):ze P (gH c):=by
 unfold gH ze
 split
 · exact⟨h1,by simp,fun _=>rfl⟩
 · rename_i h
   exact⟨h1,h2,fun e=>absurd e h⟩
theorem QL {P:SP} (hP:PB P) {own:Cell} {w:Nat} (hd:own.2≤P.d) (hm:P.m<own.1):(F5 P (iG own w) (w+1)).all (fun o=>o.2≤P.d∧o.1≤own.1):=by
 obtain ⟨a,-,b,d⟩:=kO (P:=P) (v:=iG own w) (s:=w+1) (f:=P.d) (m:=0) zo;have hm1:=hP.m1;have hd1:=hP.d1;refine bQ (fun x hx=>?_) CE;obtain ⟨x1,x2,x3⟩:=hx;generalize bz P (iG own w) (w+1) P.d 0=r at*
 refine⟨by omega,?_⟩
 by_cases hr:r<P.d
 · have:=b hr
   omega
 · have h3:=Aa own (w:=w) (m:=r) zo
   have h4:=mU (a:=own.1) (k:=r) zo;omega
theorem Dg {P:SP} (hP:PB P) {w:Nat} (hw:1≤w) (i:Int):∀(cs:List Cell) (k:Nat) (own:Cell),(∀c∈cs,ze P c)→(0≤i→own.2≤P.d∧P.m<own.1)→
 (jc P w i cs k own).all (fun r=>(∀c∈r.1,ze P c)∧(0≤i→r.2.2≤P.d∧r.2.1≤own.1)):=by
 intro cs
 induction cs with
 | nil=>intro k own _ h;exact⟨by simp,fun hi=>⟨(h hi).1,ajp _⟩⟩
 | cons c cs ih=>
   intro k own hcs hown;unfold jc
   by_cases hk:(k:Int)=i
   · rw[if_pos hk,all_bind]
     have hi:0≤i:=by omega
     refine bQ (fun o ho=>?_) (QL hP (w:=w) (hown hi).1 (hown hi).2);rw[all_bind];have hc0:=hcs c (by simp);have hst:=(vt P w i cs (k+1) o).2.2.1 (fun j hj=>by omega)
     have hce:∀(cs:List Cell) (k:Nat) (own:Cell),(∀c∈cs,ze P c)→((i:Int)<k)→(jc P w i cs k own).all (fun r=>∀c∈r.1,ze P c):=by
      intro cs
      induction cs with
      | nil=>intro k own _ _;exact by simp[jc,DT.all]
      | cons c cs ih2=>
        intro k own hcs hik;unfold jc;rw[if_neg zo,all_bind];refine bQ (fun c1 h1=>?_) (Cx hP hw (hcs c (by simp)));rw[all_bind];refine bQ (fun r hr=>?_) (ih2 (k+1) own (fun x hx=>hcs x (by simp[hx])) zo);intro x hx;rcases ajC.1 hx with e | e
        · rw[e];exact p9 h1.1 h1.2
        · exact hr x e
     refine bQ (fun r hr=>?_) (vg hst (hce cs (k+1) o (fun x hx=>hcs x (by simp[hx])) zo));refine⟨fun x hx=>?_,fun _=>?_⟩
     · rcases ajC.1 hx with e | e
       · rw[e];exact hc0
       · exact hr.2 x e
     · show r.2.2≤_∧r.2.1≤_
       rw[hr.1];exact ho
   · rw[if_neg hk,all_bind]
     refine bQ (fun c1 h1=>?_) (Cx hP hw (hcs c (by simp)));rw[all_bind];refine bQ (fun r hr=>?_) (ih (k+1) own (fun x hx=>hcs x (by simp[hx])) hown);refine⟨fun x hx=>?_,hr.2⟩;rcases ajC.1 hx with e | e
     · rw[e];exact p9 h1.1 h1.2
     · exact hr.1 x e
def need (P:SP) (s m:Nat):Nat:=(P.s-s)*(P.d+2)+(P.d-m)+1
theorem y6 {l:List Cell} {i:Nat} {c x:Cell} (h:x∈l.set i c):x=c∨x∈l:=by
 rcases alq h with h | h
 · exact .inr h
 · exact .inl h
theorem Gy {P:SP} (hP:PB P) (i:Nat):∀(f:Nat) (st:SS) (c:Cell),SOk P st→c.2≤P.d→need P st.2.1 c.2≤f→
 (gy P i f st c).all (fun r=>SOk P r∧st.2.1≤r.2.1∧(st.2.2=true→r.2.2=true)):=by
 intro f
 induction f with
 | zero=>intro st c _ _ h;unfold need at h;omega
 | succ f ih=>
   intro st c hs hc hf;unfold need at hf;unfold gy
   by_cases h1:c.1≤P.m
   · rw[if_pos h1]
     refine⟨⟨fun x hx=>?_,hs.s1,hs.s2,hs.f⟩,ajp _,fun h=>h⟩;rcases y6 hx with e | e
     · rw[e];exact p9 h1 hc
     · exact hs.c x e
   · rw[if_neg h1]
     by_cases h2:c.2<P.d
     · rw[if_pos h2,all_bind]
       refine bQ (fun c1 h=>ih st c1 hs zo ?_) (Cf c st.2.1);unfold need;omega
     · rw[if_neg h2]
       by_cases h3:st.2.1<P.s
       · rw[if_pos h3,all_bind]
         refine bQ (fun r hr=>?_) (Dg hP hs.s1 i st.1 0 c hs.c (fun _=>⟨hc,by omega⟩));have hr2:=hr.2 zo
         have hn:need P (st.2.1+1) r.2.2≤f:=by
          unfold need
          have:(P.s-st.2.1)*(P.d+2)=(P.s-(st.2.1+1))*(P.d+2)+(P.d+2):=by
           rw[show P.s-st.2.1=P.s-(st.2.1+1)+1 by omega,ajG,akH]
          omega
         refine bQ (fun q hq=>⟨hq.1,?_,hq.2.2⟩) (ih (r.1,st.2.1+1,st.2.2) r.2 ⟨hr.1,Nat.le_succ_of_le hs.s1,h3,fun h=>?_⟩ hr2.1 hn)
         · have:=hq.2.1
           simp only[] at this;omega
         · have:=hs.f h
           omega
       · rw[if_neg h3]
         refine⟨⟨fun x hx=>?_,hs.s1,hs.s2,fun _=>by have:=hs.s2;simp only[] at*;omega⟩,ajp _,fun _=>rfl⟩;rcases y6 hx with e | e
         · rw[e];exact p9 (ajp _) hc
         · exact hs.c x e
theorem CM (P:SP) (s m:Nat):need P s m≤qD P s m:=by unfold need qD;omega
theorem Cw {P:SP} {l:List Cell} (h:∀c∈l,ze P c) (i:Nat):ze P (l.getD i (0,0)):=by
 rw[ajk]
 cases e:l[i]? with
 | none=>exact⟨ajH _,ajH _,fun _=>rfl⟩
 | some c=>exact h c (aka e)
theorem Hv {P:SP} (hP:PB P) (st:SS) (i n:Nat) (hs:SOk P st):(td P st i n).all (fun r=>SOk P r∧st.2.1≤r.2.1∧(st.2.2=true→r.2.2=true)):=by
 unfold td;rw[all_bind];have h2:=(Cw hs.c i).2.1;generalize st.1.getD i (0,0)=c0 at*
 exact all_true fun a=>Gy hP i _ st (c0.1+a,c0.2) hs h2 (CM _ _ _)
theorem Qg:pr=2305843009213693951:=rfl
theorem zQ {a b:Nat} (ha:a<2305843009213693951) (hb:b<2305843009213693951):aA Tryz.prog 83 [.agg [.lit (.int .u64 a),.lit (.int .u64 b)]] [] (.lit (.int .i64 0)) []:=by
 refine zF pl Tryz.call83 Tryz.func83 [.tmp 2] fun Q hQ=>?_;exact zE [] hQ
theorem Nq {a b k:Nat} (ha:a<18446744073709551616) (hb:b<2305843009213693951) (hk:k<18446744073709551616):aA Tryz.prog 141 [.agg [.lit (.int .u64 a),.lit (.int .u64 b)],.lit (.int .u64 k)] [] (.lit (.int .u64 (((a*k+b)%pr:Nat):Int))) []:=by
 refine zF O9 Tryz.call141 Tryz.func141 [.tmp 4] fun Q hQ=>?_;refine ae ?_;refine aB (LY ha hk) rfl rfl ?_;have e:(a*k+b)%pr=(a*k%pr+b)%2305843009213693951:=by rw[Qg,Nat.mod_add_mod]
 have hm:a*k%pr<2305843009213693951:=ajI _ zd;rw[e] at hQ;generalize a*k%pr=m at*
 have f:((m:Int)+(b:Int))%2305843009213693951=(((m+b)%2305843009213693951:Nat):Int):=by omega
 refine br f ?_;exact ak [] hQ
theorem iX {a b k c:Nat} (ha:a<2305843009213693951) (hb:b<2305843009213693951) (hk:k<2305843009213693951) (hc:1≤c∧c≤64):aA Tryz.prog 76 [.agg [.lit (.int .u64 a),.lit (.int .u64 b)],.lit (.int .u64 k),.lit (.int .i64 c)] [] (.tup [.lit (.int .i64 (((a*k+b)%pr%c:Nat):Int)),.lit (.int .i64 0)]) []:=by
 refine zF pl Tryz.call76 Tryz.func76 [.tmp 6,.tmp 7] fun Q hQ=>?_;refine ae ?_;refine zC (zQ ha hb) ?_;refine aB (Nq zo hb zo) rfl rfl ?_;have hm:(a*k+b)%pr<2305843009213693951:=ajI _ zd;generalize (a*k+b)%pr=m at*
 have hmc:m%c<64:=aj2 (ajI _ zo) hc.2;have f:(m:Int)%(c:Int)=((m%c:Nat):Int):=by simp
 have f2:(m:Int).tmod (c:Int)=((m%c:Nat):Int):=by rw[ak5 zo];exact f
 refine ej f f2 ?_;exact ak [] hQ
end Go.Proofs.YtcnlmelpnflhnaaGreat
