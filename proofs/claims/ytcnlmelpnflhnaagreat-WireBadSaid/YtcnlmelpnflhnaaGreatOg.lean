import Derived.Test.YtcnlmelpnflhnaaGreatFb
import Derived.Test.YtcnlmelpnflhnaaGreatSf
import Derived.Test.YtcnlmelpnflhnaaGreatBc
import Derived.Test.YtcnlmelpnflhnaaGreatBh
namespace Go.Proofs.YtcnlmelpnflhnaaGreat
open Go.Eng
set_option linter.unusedSimpArgs false
set_option linter.unusedVariables false
def kz (M D:Nat) (cs:List Cell):List Bool:=cs.flatMap fun c=>numBits c.1 M++numBits c.2 D
def eC (M D:Nat) (st:SS):List Bool:=numBits (st.2.1-1) 3++[st.2.2]++kz M D st.1
theorem ju (M D:Nat) (c:Cell) (cs:List Cell):kz M D (c::cs)=numBits c.1 M++numBits c.2 D++kz M D cs:=by simp[kz]
theorem MU (M D:Nat) (X Y:List Cell):kz M D (X++Y)=kz M D X++kz M D Y:=by simp[kz]
theorem qq (M D:Nat):∀(cs:List Cell),(kz M D cs).length=cs.length*(M+D)
 | []=>by simp[kz]
 | c::cs=>by rw[ju,ake,ake,aj,aj,qq M D cs,akm,akA];omega
theorem Hb {M D:Nat} {X:List Cell} {i:Nat} {x:Cell} (h:X[i]? =some x):kz M D (X.take (i+1))=kz M D (X.take i)++numBits x.1 M++numBits x.2 D:=by
 rw[ama,h,MU];simp[kz]
theorem np (M D:Nat) (st:SS):(eC M D st).length=4+st.1.length*(M+D):=by
 unfold eC;rw[ake,ake,aj,qq]
 rfl
def i7 (L:List Bool) (M D:Nat):Nat→Nat→Option (List Cell)×Nat×Int
 | 0,p=>(some [],p,0)
 | c+1,p=>
   if p+(M+D)≤L.length then
    (if numOf ((L.drop p).take M)=0∧0<numOf ((L.drop (p+M)).take D) then(none,p+M+D,4)
     else((i7 L M D c (p+M+D)).1.map (fun X=>(numOf ((L.drop p).take M),numOf ((L.drop (p+M)).take D))::X),(i7 L M D c (p+M+D)).2))
   else(none,p,5)
theorem xH {L:List Bool} {M D p:Nat}:i7 L M D 0 p=(some [],p,0):=rfl
theorem nv {L:List Bool} {M D c p:Nat}:i7 L M D (c+1) p=
 if p+(M+D)≤L.length then
  (if numOf ((L.drop p).take M)=0∧0<numOf ((L.drop (p+M)).take D) then(none,p+M+D,4)
   else((i7 L M D c (p+M+D)).1.map (fun X=>(numOf ((L.drop p).take M),numOf ((L.drop (p+M)).take D))::X),(i7 L M D c (p+M+D)).2))
 else(none,p,5):=rfl
def vf (L:List Bool) (M D S n p:Nat):Option SS×Nat×Int:=
 if p+4≤L.length then
  (if S<numOf ((L.drop p).take 3)+1∨(L.getD (p+3) false=true∧numOf ((L.drop p).take 3)+1<S) then(none,p+4,4)
   else((i7 L M D n (p+4)).1.map (fun X=>(X,numOf ((L.drop p).take 3)+1,L.getD (p+3) false)),(i7 L M D n (p+4)).2))
 else(none,p,5)
theorem Le {L:List Bool} {M D:Nat}:∀{c p:Nat},p≤L.length→(i7 L M D c p).2.1≤L.length
 | 0,p,h=>h
 | c+1,p,h=>by
   unfold i7
   split
   · split
     · dsimp only;omega
     · exact Le (c:=c) zo
   · exact h
theorem Q2 {L:List Bool} {M D S n p:Nat} (h:p≤L.length):(vf L M D S n p).2.1≤L.length:=by
 unfold vf
 split
 · split
   · assumption
   · exact Le (by assumption)
 · exact h
theorem xP {L:List Bool} {M D:Nat}:∀{c p:Nat},(i7 L M D c p).1=none→(i7 L M D c p).2.2=4∨(i7 L M D c p).2.2=5
 | 0,p,h=>by cases h
 | c+1,p,h=>by
   unfold i7 at*
   split at h
   · rename_i h1
     rw[if_pos h1]
     split at h
     · rename_i h2
       rw[if_pos h2];exact .inl rfl
     · rename_i h2
       rw[if_neg h2];exact xP (c:=c) (amm.1 h)
   · rename_i h1
     rw[if_neg h1];exact .inr rfl
theorem Iu {L:List Bool} {M D S n p:Nat} (h:(vf L M D S n p).1=none):(vf L M D S n p).2.2=4∨(vf L M D S n p).2.2=5:=by
 unfold vf at*
 split at h
 · rename_i h1
   rw[if_pos h1]
   split at h
   · rename_i h2
     rw[if_pos h2];exact .inl rfl
   · rename_i h2
     rw[if_neg h2];exact xP (amm.1 h)
 · rename_i h1
   rw[if_neg h1];exact .inr rfl
theorem CY {L:List Bool} {M D:Nat}:∀{c p:Nat} {X:List Cell},p≤L.length→(i7 L M D c p).1=some X→
 L.drop p=kz M D X++L.drop (i7 L M D c p).2.1∧(i7 L M D c p).2.2=0∧X.length=c∧(∀x∈X,x.1<2^M∧x.2<2^D∧(x.1=0→x.2=0))∧(i7 L M D c p).2.1=p+c*(M+D)
 | 0,p,X,hp,h=>by
   injection h with h;subst h;exact⟨rfl,rfl,rfl,fun x hx=>(by cases hx),by rw[alF];rfl⟩
 | c+1,p,X,hp,h=>by
   by_cases h1:p+(M+D)≤L.length
   · by_cases h3:numOf ((L.drop p).take M)=0∧0<numOf ((L.drop (p+M)).take D)
     · unfold i7 at h
       rw[if_pos h1,if_pos h3] at h
       cases h
     · have e:i7 L M D (c+1) p=((i7 L M D c (p+M+D)).1.map (fun X=>(numOf ((L.drop p).take M),numOf ((L.drop (p+M)).take D))::X),(i7 L M D c (p+M+D)).2):=by
        conv=>lhs;unfold i7
        rw[if_pos h1,if_neg h3]
       rw[e] at h ⊢
       cases hr:(i7 L M D c (p+M+D)).1 with
       | none=>rw[hr] at h;cases h
       | some Y=>
         rw[hr] at h;injection h with h;subst h;obtain ⟨k1,k2,k3,k4,k5⟩:=CY (c:=c) zo hr;dsimp only;refine⟨?_,k2,by rw[List.length_cons,k3],fun x hx=>?_,by rw[k5,Nat.add_mul];omega⟩
         · rw[ju,ga zo,ga zo,akl,akl,←k1,←gn,←gn]
         · rcases aky.1 hx with rfl | hx
           · exact⟨aL _ _,aL _ _,fun h=>by dsimp only at h ⊢;omega⟩
           · exact k4 x hx
   · unfold i7 at h
     rw[if_neg h1] at h
     cases h
theorem y5 {M D:Nat} {R:List Bool}:∀(X:List Cell) (A:List Bool),(∀x∈X,x.1<2^M∧x.2<2^D∧(x.1=0→x.2=0))→
 i7 (A++(kz M D X++R)) M D X.length A.length=(some X,A.length+(kz M D X).length,0)
 | [],A,h=>by simp[i7,kz]
 | x::X,A,h=>by
   obtain ⟨h1,h2,h3⟩:=h x (by simp);have ih:=y5 (M:=M) (D:=D) (R:=R) X (A++numBits x.1 M++numBits x.2 D) (fun y hy=>h y (by simp[hy]));have e:A++(kz M D (x::X)++R)=A++numBits x.1 M++numBits x.2 D++(kz M D X++R):=by rw[ju];simp
   have e2:A++(kz M D (x::X)++R)=A++numBits x.1 M++(numBits x.2 D++(kz M D X++R)):=by rw[ju];simp
   have e3:A++(kz M D (x::X)++R)=A++(numBits x.1 M++(numBits x.2 D++(kz M D X++R))):=by rw[ju];simp
   have hn:numOf (((A++(kz M D (x::X)++R)).drop A.length).take M)=x.1:=by
    rw[e3,amM,alo (aj _ _),ba,akG h1]
   have hm:numOf (((A++(kz M D (x::X)++R)).drop (A.length+M)).take D)=x.2:=by
    rw[e2,show A.length+M=(A++numBits x.1 M).length by rw[ake,aj],amM,alo (aj _ _),ba,akG h2]
   have hl:A.length+(M+D)≤(A++(kz M D (x::X)++R)).length:=by rw[e3];simp[aj];try omega
   rw[ake,ake,aj,aj,←e] at ih;rw[akm];unfold i7;rw[if_pos hl,hn,hm,if_neg (fun h=>by have:=h3 h.1;omega),ih,ju];simp only[ald,ake,aj]
   congr 2
   omega
def okS (M D S n:Nat) (st:SS):Prop:=st.1.length=n∧(∀x∈st.1,x.1<2^M∧x.2<2^D∧(x.1=0→x.2=0))∧1≤st.2.1∧st.2.1≤S∧(st.2.2=true→st.2.1=S)
theorem xa {L:List Bool} {p:Nat} (h:p+4≤L.length):L.drop p=numBits (numOf ((L.drop p).take 3)) 3++[L.getD (p+3) false]++L.drop (p+4):=by
 rw[ga zo,akl]
 conv=>lhs;rw[gn p 3]
 congr 1
 rw[ak3 zo,akf,akh zo]
 rfl
theorem NM {L:List Bool} {M D S n p:Nat} {st:SS} (hp:p≤L.length) (h:(vf L M D S n p).1=some st):
 L.drop p=eC M D st++L.drop (vf L M D S n p).2.1∧(vf L M D S n p).2.2=0∧okS M D S n st∧(vf L M D S n p).2.1=p+(eC M D st).length:=by
 by_cases h1:p+4≤L.length
 · by_cases h2:S<numOf ((L.drop p).take 3)+1∨(L.getD (p+3) false=true∧numOf ((L.drop p).take 3)+1<S)
   · unfold vf at h
     rw[if_pos h1,if_pos h2] at h
     cases h
   · have e:vf L M D S n p=((i7 L M D n (p+4)).1.map (fun X=>(X,numOf ((L.drop p).take 3)+1,L.getD (p+3) false)),(i7 L M D n (p+4)).2):=by unfold vf;rw[if_pos h1,if_neg h2]
     rw[e] at h ⊢
     cases hr:(i7 L M D n (p+4)).1 with
     | none=>rw[hr] at h;cases h
     | some X=>
       rw[hr] at h;injection h with h;obtain ⟨k1,k2,k3,k4,k5⟩:=CY h1 hr;subst h;dsimp only;refine⟨?_,k2,⟨k3,k4,by dsimp only;omega,by dsimp only;omega,fun hf=>?_⟩,by rw[k5,np,k3];omega⟩
       · unfold eC
         dsimp only;rw[Nat.add_sub_cancel,List.append_assoc (_++_),←k1];exact xa h1
       · dsimp only at hf ⊢
         have:¬(numOf ((L.drop p).take 3)+1<S):=fun hl=>h2 (.inr ⟨hf,hl⟩)
         omega
 · unfold vf at h
   rw[if_neg h1] at h
   cases h
theorem xT {A R:List Bool} {M D S n:Nat} {st:SS} (hS:S≤8) (h:okS M D S n st):vf (A++(eC M D st++R)) M D S n A.length=(some st,A.length+(eC M D st).length,0):=by
 obtain ⟨h1,h2,h3,h4,h5⟩:=h;obtain ⟨cs,s,f⟩:=st;dsimp only at h1 h2 h3 h4 h5;have hr:=y5 (M:=M) (D:=D) (R:=R) cs (A++numBits (s-1) 3++[f]) h2;have e:A++(eC M D (cs,s,f)++R)=A++numBits (s-1) 3++[f]++(kz M D cs++R):=by simp[eC]
 have e2:A++(eC M D (cs,s,f)++R)=A++numBits (s-1) 3++([f]++(kz M D cs++R)):=by simp[eC]
 have e3:A++(eC M D (cs,s,f)++R)=A++(numBits (s-1) 3++([f]++(kz M D cs++R))):=by simp[eC]
 have hn:numOf (((A++(eC M D (cs,s,f)++R)).drop A.length).take 3)=s-1:=by
  rw[e3,amM,alo (aj _ _),ba,akG (show s-1<2^3 by omega)]
 have hf:(A++(eC M D (cs,s,f)++R)).getD (A.length+3) false=f:=by
  rw[e2,show A.length+3=(A++numBits (s-1) 3).length by rw[ake,aj],akf,akq (akk _),alw]
  rfl
 have hl:A.length+4≤(A++(eC M D (cs,s,f)++R)).length:=by rw[e];simp[aj];omega
 rw[←e,h1,ake,ake,aj,alj] at hr;unfold vf
 rw[if_pos hl,hn,hf,if_neg (fun h=>by
  rcases h with h | ⟨h,h'⟩
  · omega
  · have:=h5 h;omega),show A.length+4=A.length+3+1 by omega,hr,show s-1+1=s by omega,np]
 simp only[ald];rw[qq]
 try dsimp only
 congr 2
 omega
theorem Sb {M D S:Nat} {st:SS} (h:SOk (cZ M D S) st):okS M D S st.1.length st:=by
 refine⟨rfl,fun x hx=>?_,h.s1,h.s2,h.f⟩;obtain ⟨a,b,c⟩:=h.c x hx;have hM:0<2^M:=akN zd;have hD:0<2^D:=akN zd;have ha:x.1≤2^M-1:=a;have hb:x.2≤2^D-1:=b;exact⟨by omega,by omega,c⟩
open Go.Eng Go.Vx
set_option maxRecDepth 100000
def MN {α:Type} (L:List Bool) (d:Bool) (o:Option (α×Nat)) (x:α×Int×Nat×Bool):Prop:=match o with | some (a,q)=>x=(a,0,q,d) | none=>x.2=(8,L.length,true)
theorem jj {L:List Bool} {d:Bool} {n k p a q:Nat} (h:(fq n k).run L p=some (a,q)):gL L d n k p=(a,0,q,d):=by unfold gL;rw[h];rfl
theorem jr {L:List Bool} {d:Bool} {n k p:Nat} (h:(fq n k).run L p=none):gL L d n k p=(0,8,L.length,true):=by unfold gL;rw[h];rfl
theorem QJ {P:SP} {w:Nat} {i:Int} {L:List Bool} {cs Y:List Cell} {own0 own own' z:Cell} {k p q q':Nat} (hk:k<Y.length)
 (h:(jl P w i cs 0 own0).run L p=((jl P w i (Y.drop k) k own).run L q).map (fun r=>((Y.take k++r.1.1,r.1.2),r.2)))
 (e:(jl P w i (Y.drop k) k own).run L q=((jl P w i (Y.drop (k+1)) (k+1) own').run L q').map (fun r=>((z::r.1.1,r.1.2),r.2))):
 (jl P w i cs 0 own0).run L p=((jl P w i ((Y.set k z).drop (k+1)) (k+1) own').run L q').map (fun r=>(((Y.set k z).take (k+1)++r.1.1,r.1.2),r.2)):=by
 have e1:(Y.set k z).drop (k+1)=Y.drop (k+1):=by rw[amx zo]
 have e2:(Y.set k z).take (k+1)=Y.take k++[z]:=by
  rw[akL (by simpa using hk),amv (akk k)]
  simp
 rw[h,e,e1,e2,Option.map_map]
 congr 1
 funext r
 simp
set_option maxHeartbeats 4000000 in
theorem y8 {M D S s p:Nat} {cs:List Cell} {f d:Bool} {L:List Bool} {i:Int} {own:Cell} (hw:WB M D S) (hL:L.length≤1048576) (hp:p≤L.length) (hd:d=true→p=L.length) (hs:s≤4) (hn:cs.length≤256)
 (hc:∀c∈cs,zK (cZ M D S) c) (ho:own.1≤16777216∧own.2≤3):
 FnR Tryz.prog 139 [.ref 0 0 0 0,.ref 1 0 0 0,.I i,cA own] (W3 M D S cs.length cs s f L p d)
 (MN L d ((jl (cZ M D S) s i cs 0 own).run L p)) (fun x=>.tup [cA x.1.2,.I x.2.1]) (fun x=>W3 M D S cs.length x.1.1 (s+1) f L x.2.2.1 x.2.2.2):=by
 have ht:=tn (M:=M) (D:=D) (S:=S) (by have:=hw.m8;omega) (by have:=hw.d2;omega);have hpw:=hw.pw;have hd3:=hpw.d3;have hm255:=hpw.m255;rw[show 2^M-1=(cZ M D S).m from rfl,show 2^D-1=(cZ M D S).d from rfl] at ht;have hsc:=fun(v p':Nat) (Y:List Cell) (h1:p'≤L.length) (h2:d=true→p'=L.length) (h3:v≤1099511627776)=>BN (M:=M) (D:=D) (S:=S) (n:=cs.length) (s:=s+1) (sc:=s+1) (v:=v) (p:=p') (cs:=Y) (f:=f) (d:=d) (L:=L) hw hL h1 h2 h3 zo;generalize hP:cZ M D S=P at*
 refine Dr Pa zk Tryz.call139 Tryz.func139 rfl zk rfl [.cell 8 151,.tmp 9] zk fun Q hQ=>?_;refine ae ?_;refine zC ht ?_
 refine aU (X:=Nat×List Cell×Cell×Nat) (st:=fun y=>([(0,.ref 0 0 0 0),(1,.ref 1 0 0 0),(2,.I i),(7,.ref 3 0 0 0),(8,.ref 4 0 0 0),(10,.I (P.m:Int)),(12,.I s),(39,.I cs.length),(40,.I y.1)],
  W3 M D S cs.length y.2.1 (s+1) f L y.2.2.2 d++[some (.cells [.I y.2.2.1.1,.I y.2.2.1.2]),some (.cells [.I 0,.I 0])]))
  (inv:=fun y=>y.1≤cs.length∧y.2.1.length=cs.length∧y.2.2.2≤L.length∧(d=true→y.2.2.2=L.length)∧(∀c∈y.2.1.drop y.1,zK P c)∧(y.2.2.1.1≤16777216∧y.2.2.1.2≤3∨i<y.1)∧
   (jl P s i cs 0 own).run L p=((jl P s i (y.2.1.drop y.1) y.1 y.2.2.1).run L y.2.2.2).map (fun r=>((y.2.1.take y.1++r.1.1,r.1.2),r.2)))
  (m:=fun y=>cs.length-y.1) (0,cs,own,p) [some 0,some 1,some 2,some 3,some 4] ⟨akF _,rfl,hp,hd,hc,.inl ho,by simp⟩ ?_
 rintro ⟨k,Y,o,q⟩ ⟨hk,hY,hq,hdq,hcY,hoq,hrun⟩;dsimp only at hk hY hq hdq hcY hoq hrun ⊢;have hs1:((s:Int)+1)=((s+1:Nat):Int):=by omega
 by_cases hkl:k<cs.length
 · have hkY:k<Y.length:=by omega
   have hdr:Y.drop k=Y[k]::Y.drop (k+1):=ak3 hkY;have hget:Y.getD k default=Y[k]:=by rw[akf,akh hkY];rfl
   have hself:Y.set k Y[k]=Y:=List.set_getElem_self _;have hck:=hcY Y[k] (by rw[hdr];exact amr);have hcY2:∀c∈Y.drop (k+1),zK P c:=fun c hc=>hcY c (by rw[hdr];exact alI _ hc)
   have hcY3:∀z,∀c∈(Y.set k z).drop (k+1),zK P c:=by
    intro z c hc;rw[amx zo] at hc;exact hcY2 c hc
   have hmap:= @QJ P s i L cs Y own o
   by_cases hki:(k:Int)=i
   · have hob:o.1≤16777216∧o.2≤3:=by rcases hoq with h | h;exact h;omega
     have hv:=Iw (c:=o) (s:=s) hob.1 hob.2 hs;have hsm:=H6 (s:=s) (m:=o.2) hs hob.2;have hwo:=uw (c:=o) (s:=s) zo zo;have hsd:=hsc (iN o s) q Y hq hdq zo;have hrs:=NJ (P:=P) (L:=L) (w:=s) (p:=q) (c:=Y[k]) (own:=o) (cs:=Y.drop (k+1)) hki;have hml:=wc (P:=P) (v:=iN o s) (s:=s+1);rw[←hdr,DG] at hrs;generalize bu P (iN o s) (s+1) P.d 0=mm at*
     cases h1:(fq (iN o s) ((s+1)*mm)).run L q with
     | none=>
       rw[h1] at hrs;dsimp only[Option.map_none] at hrs;rw[hrs,Option.map_none] at hrun;rw[jr h1] at hsd;rw[hrun] at hQ;generalize iN o s=v at*
       refine bg hget ?_;refine zC hwo ?_;refine aF [some 0,some 1,some 2] [] (hsd) ?_;refine bg hs1 ?_;exact ai [some 0,some 1,some 2] (hQ ((Y,(0,mm)),8,L.length,true) rfl)
     | some r=>
       obtain ⟨n,q'⟩:=r;rw[h1] at hrs;dsimp only[Option.map_some] at hrs;have hnx:=il hq hdq h1;have hnl:=vF h1;rw[jj h1] at hsd;have hm2:=hmap hkY hrun hrs;rw[hself] at hm2;generalize iN o s=v at*
       refine bg hget ?_;refine zC hwo ?_;refine aF [some 0,some 1,some 2] [] (hsd) ?_;refine bg hs1 ?_;refine aR (k+1,Y,(n,mm),q') [some 0,some 1,some 2,some 3,some 4] ⟨hkl,hY,hnx.1,hnx.2,hcY2,.inr (by dsimp only;omega),hm2⟩ (by dsimp only;omega)
   · obtain ⟨hc1,hc2,-⟩:=hck
     have hv:=Iw (c:=Y[k]) (s:=s) (A:=255) zo zo hs;have hsm:=H6 (s:=s) (m:=Y[k].2) hs zo;have hwo:=uw (c:=Y[k]) (s:=s) zo zo;have hsd:=hsc (iN Y[k] s) q Y hq hdq zo;have hrs:=Gf (P:=P) (L:=L) (w:=s) (p:=q) (c:=Y[k]) (own:=o) (cs:=Y.drop (k+1)) hki;have hml:=wc (P:=P) (v:=iN Y[k] s) (s:=s+1);have hvl:iN Y[k] s≤1044480:=by omega
     rw[←hdr,OL,DG] at hrs;have hput:=fun(z:Cell)=>DQ (M:=M) (D:=D) (S:=S) (cs:=Y) (s:=s+1) (i:=k) (f:=f) (c:=z) hkY zo;rw[hY] at hput;have hoq2:o.1≤16777216∧o.2≤3∨i<((k+1:Nat):Int):=by rcases hoq with h | h;exact .inl h;exact .inr zo
     have hlen:∀z,(Y.set k z).length=cs.length:=fun z=>by rw[akJ];exact hY
     generalize bu P (iN Y[k] s) (s+1) P.d 0=mm at*
     generalize Y[k]=y at*
     cases h1:(fq (iN y s) ((s+1)*mm)).run L q with
     | none=>
       rw[h1] at hrs;dsimp only[Option.map_none] at hrs;rw[hrs,Option.map_none] at hrun;rw[jr h1] at hsd;rw[hrun] at hQ;generalize iN y s=v at*
       refine bg hget ?_;refine zC hwo ?_;refine aF [some 0,some 1,some 2] [] (hsd) ?_;refine bg hs1 ?_;exact ai [some 0,some 1,some 2] (hQ ((Y,o),8,L.length,true) rfl)
     | some r=>
       obtain ⟨n,q'⟩:=r;rw[h1] at hrs;dsimp only[Option.map_some] at hrs;have hnx:=il hq hdq h1;have hnl:=vF h1;rw[jj h1] at hsd;generalize iN y s=v at*
       by_cases hb:P.m<n
       · rw[if_pos hb,C8] at hrs
         have hup:=JJ (M:=M) (D:=D) (S:=S) (n:=cs.length) (cs:=Y) (s:=s+1) (p:=q') (f:=f) (d:=d) (L:=L) (c:=(n,mm)) hL hnx.1 hnx.2 (by dsimp only;omega) (by dsimp only;omega) zo;dsimp only at hup hrs
         cases h2:(fq n (s+1)).run L q' with
         | none=>
           rw[h2] at hrs;dsimp only[Option.map_none] at hrs;rw[hrs,Option.map_none] at hrun;rw[jr h2] at hup;rw[hrun] at hQ;refine bg hget ?_;refine zC hwo ?_;refine aF [some 0,some 1,some 2] [] (hsd) ?_;refine bg hs1 ?_;refine zW [some 0,some 1,some 2] [] hup ?_;exact ai [some 0,some 1,some 2] (hQ ((Y,o),8,L.length,true) rfl)
         | some r2=>
           obtain ⟨n2,q2⟩:=r2;rw[h2] at hrs;dsimp only[Option.map_some] at hrs;have hnx2:=il hnx.1 hnx.2 h2;rw[jj h2] at hup;have hp2:=hput (n2,mm+1);have hm2:=hmap hkY hrun hrs;refine bg hget ?_;refine zC hwo ?_;refine aF [some 0,some 1,some 2] [] (hsd) ?_;refine bg hs1 ?_;refine zW [some 0,some 1,some 2] [] hup ?_;refine zW [some 0,some 2] [] hp2 ?_;refine aR (k+1,Y.set k (gS (n2,mm+1)),o,q2) [some 0,some 1,some 2,some 3,some 4] ⟨hkl,hlen _,hnx2.1,hnx2.2,hcY3 _,hoq2,hm2⟩ (by dsimp only;omega)
       · rw[if_neg hb] at hrs
         dsimp only at hrs;have hp2:=hput (n,mm);have hm2:=hmap hkY hrun hrs;refine bg hget ?_;refine zC hwo ?_;refine aF [some 0,some 1,some 2] [] (hsd) ?_;refine bg hs1 ?_;refine zW [some 0,some 2] [] hp2 ?_;refine aR (k+1,Y.set k (gS (n,mm)),o,q') [some 0,some 1,some 2,some 3,some 4] ⟨hkl,hlen _,hnx.1,hnx.2,hcY3 _,hoq2,hm2⟩ (by dsimp only;omega)
 · obtain rfl:k=cs.length:=by omega
   have hdr:Y.drop cs.length=[]:=List.drop_eq_nil_of_le zo;have htk:Y.take cs.length=Y:=aku zo;rw[hdr,htk] at hrun
   have hrun2:(jl P s i cs 0 own).run L p=some ((Y,o),q):=by
    rw[hrun];show some ((Y++[],o),q)=_;rw[ak7]
   rw[hrun2] at hQ;refine ae ?_;exact ai [some 0,some 1,some 2] (hQ ((Y,o),0,q,d) rfl)
end Go.Proofs.YtcnlmelpnflhnaaGreat
