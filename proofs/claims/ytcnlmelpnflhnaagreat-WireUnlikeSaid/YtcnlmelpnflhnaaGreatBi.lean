import Derived.Test.YtcnlmelpnflhnaaGreatFw
import Derived.Test.YtcnlmelpnflhnaaGreatRf
import Derived.Test.YtcnlmelpnflhnaaGreatAa
import Derived.Test.YtcnlmelpnflhnaaGreatBa
import Derived.Test.YtcnlmelpnflhnaaGreatFb
import Derived.Test.YtcnlmelpnflhnaaGreatBg
namespace Go.Proofs.YtcnlmelpnflhnaaGreat
open Go.Eng
set_option linter.unusedSimpArgs false
set_option linter.unusedVariables false
def kc (M D:Nat) (cs:List Cell):List Bool:=cs.flatMap fun c=>numBits c.1 M++numBits c.2 D
def ey (M D:Nat) (st:SS):List Bool:=numBits (st.2.1-1) 3++[st.2.2]++kc M D st.1
theorem kz (M D:Nat) (c:Cell) (cs:List Cell):kc M D (c::cs)=numBits c.1 M++numBits c.2 D++kc M D cs:=by simp[kc]
theorem LA (M D:Nat) (X Y:List Cell):kc M D (X++Y)=kc M D X++kc M D Y:=by simp[kc]
theorem pX (M D:Nat):∀(cs:List Cell),(kc M D cs).length=cs.length*(M+D)
 | []=>by simp[kc]
 | c::cs=>by rw[kz,ajj,ajj,aj,aj,pX M D cs,ajr,ajG];omega
theorem Gl {M D:Nat} {X:List Cell} {i:Nat} {x:Cell} (h:X[i]? =some x):kc M D (X.take (i+1))=kc M D (X.take i)++numBits x.1 M++numBits x.2 D:=by
 rw[ak7,h,LA];simp[kc]
theorem qg (M D:Nat) (st:SS):(ey M D st).length=4+st.1.length*(M+D):=by
 unfold ey;rw[ajj,ajj,aj,pX]
 rfl
def qE (L:List Bool) (M D:Nat):Nat→Nat→Option (List Cell)×Nat×Int
 | 0,p=>(some [],p,0)
 | c+1,p=>
   if p+(M+D)≤L.length then
    (if numOf ((L.drop p).take M)=0∧0<numOf ((L.drop (p+M)).take D) then(none,p+M+D,4)
     else((qE L M D c (p+M+D)).1.map (fun X=>(numOf ((L.drop p).take M),numOf ((L.drop (p+M)).take D))::X),(qE L M D c (p+M+D)).2))
   else(none,p,5)
theorem xh {L:List Bool} {M D p:Nat}:qE L M D 0 p=(some [],p,0):=rfl
theorem m9 {L:List Bool} {M D c p:Nat}:qE L M D (c+1) p=
 if p+(M+D)≤L.length then
  (if numOf ((L.drop p).take M)=0∧0<numOf ((L.drop (p+M)).take D) then(none,p+M+D,4)
   else((qE L M D c (p+M+D)).1.map (fun X=>(numOf ((L.drop p).take M),numOf ((L.drop (p+M)).take D))::X),(qE L M D c (p+M+D)).2))
 else(none,p,5):=rfl
def YA (L:List Bool) (M D S n p:Nat):Option SS×Nat×Int:=
 if p+4≤L.length then
  (if S<numOf ((L.drop p).take 3)+1∨(L.getD (p+3) false=true∧numOf ((L.drop p).take 3)+1<S) then(none,p+4,4)
   else((qE L M D n (p+4)).1.map (fun X=>(X,numOf ((L.drop p).take 3)+1,L.getD (p+3) false)),(qE L M D n (p+4)).2))
 else(none,p,5)
theorem yI {M D:Nat} {R:List Bool}:∀(X:List Cell) (A:List Bool),(∀x∈X,x.1<2^M∧x.2<2^D∧(x.1=0→x.2=0))→
 qE (A++(kc M D X++R)) M D X.length A.length=(some X,A.length+(kc M D X).length,0)
 | [],A,h=>by simp[qE,kc]
 | x::X,A,h=>by
   obtain ⟨h1,h2,h3⟩:=h x (by simp);have ih:=yI (M:=M) (D:=D) (R:=R) X (A++numBits x.1 M++numBits x.2 D) (fun y hy=>h y (by simp[hy]));have e:A++(kc M D (x::X)++R)=A++numBits x.1 M++numBits x.2 D++(kc M D X++R):=by rw[kz];simp
   have e2:A++(kc M D (x::X)++R)=A++numBits x.1 M++(numBits x.2 D++(kc M D X++R)):=by rw[kz];simp
   have e3:A++(kc M D (x::X)++R)=A++(numBits x.1 M++(numBits x.2 D++(kc M D X++R))):=by rw[kz];simp
   have hn:numOf (((A++(kc M D (x::X)++R)).drop A.length).take M)=x.1:=by
    rw[e3,alO,akv (aj _ _),aX,ajL h1]
   have hm:numOf (((A++(kc M D (x::X)++R)).drop (A.length+M)).take D)=x.2:=by
    rw[e2,show A.length+M=(A++numBits x.1 M).length by rw[ajj,aj],alO,akv (aj _ _),aX,ajL h2]
   have hl:A.length+(M+D)≤(A++(kc M D (x::X)++R)).length:=by rw[e3];simp[aj];try omega
   rw[ajj,ajj,aj,aj,←e] at ih;rw[ajr];unfold qE;rw[if_pos hl,hn,hm,if_neg (fun h=>by have:=h3 h.1;omega),ih,kz];simp only[aki,ajj,aj]
   congr 2
   omega
def okS (M D S n:Nat) (st:SS):Prop:=st.1.length=n∧(∀x∈st.1,x.1<2^M∧x.2<2^D∧(x.1=0→x.2=0))∧1≤st.2.1∧st.2.1≤S∧(st.2.2=true→st.2.1=S)
theorem qW {A R:List Bool} {M D S n:Nat} {st:SS} (hS:S≤8) (h:okS M D S n st):YA (A++(ey M D st++R)) M D S n A.length=(some st,A.length+(ey M D st).length,0):=by
 obtain ⟨h1,h2,h3,h4,h5⟩:=h;obtain ⟨cs,s,f⟩:=st;dsimp only at h1 h2 h3 h4 h5;have hr:=yI (M:=M) (D:=D) (R:=R) cs (A++numBits (s-1) 3++[f]) h2;have e:A++(ey M D (cs,s,f)++R)=A++numBits (s-1) 3++[f]++(kc M D cs++R):=by simp[ey]
 have e2:A++(ey M D (cs,s,f)++R)=A++numBits (s-1) 3++([f]++(kc M D cs++R)):=by simp[ey]
 have e3:A++(ey M D (cs,s,f)++R)=A++(numBits (s-1) 3++([f]++(kc M D cs++R))):=by simp[ey]
 have hn:numOf (((A++(ey M D (cs,s,f)++R)).drop A.length).take 3)=s-1:=by
  rw[e3,alO,akv (aj _ _),aX,ajL (show s-1<2^3 by omega)]
 have hf:(A++(ey M D (cs,s,f)++R)).getD (A.length+3) false=f:=by
  rw[e2,show A.length+3=(A++numBits (s-1) 3).length by rw[ajj,aj],ajk,ajx (ajp _),akz]
  rfl
 have hl:A.length+4≤(A++(ey M D (cs,s,f)++R)).length:=by rw[e];simp[aj];omega
 rw[←e,h1,ajj,ajj,aj,akw] at hr;unfold YA
 rw[if_pos hl,hn,hf,if_neg (fun h=>by
  rcases h with h | ⟨h,h'⟩
  · omega
  · have:=h5 h;omega),show A.length+4=A.length+3+1 by omega,hr,show s-1+1=s by omega,qg]
 simp only[aki];rw[pX]
 try dsimp only
 congr 2
 omega
theorem vU {M D S:Nat} {st:SS} (h:SOk (cR M D S) st):okS M D S st.1.length st:=by
 refine⟨rfl,fun x hx=>?_,h.s1,h.s2,h.f⟩;obtain ⟨a,b,c⟩:=h.c x hx;have hM:0<2^M:=ajV zd;have hD:0<2^D:=ajV zd;have ha:x.1≤2^M-1:=a;have hb:x.2≤2^D-1:=b;exact⟨by omega,by omega,c⟩
open Go.Eng Go.Vx
set_option maxRecDepth 100000
def GU (B:List Int) (p:Nat):V:=.rref 2 [[.row 1 (B.map (ie .u8)),.lit (.int .i64 (p:Int))]] 0 0
attribute [go_sem] GU
theorem xA {B:List Int} {p:Nat} (hB:B.length≤1099511627776) (hp:p≤8*B.length):aA Tryz.prog 102 [GU B p] [] (.lit (.int .i64 ((8*B.length-p:Nat):Int))) []:=by
 refine zF Df Tryz.call102 Tryz.func102 [.tmp 2] fun Q hQ=>?_;refine ae ?_;rw[show((8:Int)*(B.length:Int)-(p:Int))=((8*B.length-p:Nat):Int) by omega];exact ak [] hQ
theorem y7 {M D S n:Nat} (h:tQ M D S) (hn:1≤n∧n≤256):aA Tryz.prog 26 [pA M D S,.lit (.int .i64 (n:Int))] [] (.tup [.ref 0 0 0 0,.lit (.int .i64 0)])
 [some (J2 M D S 1 n 1 false),some (.row 2 ((List.replicate n ((0:Nat),(0:Nat))).map cV))]:=by
 have hc:=Ft h;have w:=jO (n:=(n:Int)) (m:=256);rw[aju (show(1:Int)≤(n:Int)∧(n:Int)≤256 by omega)] at w;have e:(List.replicate n ((0:Nat),(0:Nat))).map cV=dQ [.int .i64 0,.int .i64 0] n:=by rw[List.map_replicate];rfl
 have el:(dQ [Value.int IntKind.i64 0,Value.int IntKind.i64 0] n).length=n:=by unfold dQ;rw[ajF]
 refine zF Wd Tryz.call26 Tryz.func26 [.tmp 4,.tmp 5] fun Q hQ=>?_;unfold J2 at hQ;rw[e,show((1:Nat):Int)=1 from rfl] at hQ;refine ae ?_;refine zC hc ?_;refine zC w ?_;generalize dQ [Value.int IntKind.i64 0,Value.int IntKind.i64 0] n=zr at*
 exact ak [some 2,some 1] hQ
def JS (r:Option SS×Nat×Int):V:=match r.1 with
 | some _=>.tup [.ref 1 0 0 0,.lit (.int .i64 0)]
 | none=>.tup [.lit (.pointer none),.lit (.int .i64 r.2.2)]
def JR (M D S:Nat) (B:List Int) (r:Option SS×Nat×Int):St:=match r.1 with
 | some x=> [some (dk B r.2.1),some (tJ M D S x)]
 | none=> [some (dk B r.2.1)]
set_option maxHeartbeats 8000000 in
theorem Ji {M D S n p:Nat} {B:List Int} (h:tQ M D S) (hn:1≤n∧n≤256) (hI:ke B) (hB:B.length≤1099511627776) (hp:p≤8*B.length):
 aA Tryz.prog 108 [.ref 0 0 0 0,pA M D S,.lit (.int .i64 (n:Int))] [some (dk B p)] (JS (YA (bitsOf B) M D S n p)) (JR M D S B (YA (bitsOf B) M D S n p)):=by
 have hnw:=y7 h hn;have hbl:=ba B;have hM:1≤M∧M≤16:=by have:=h.1;omega
 have hD:1≤D∧D≤4:=by have:=h.2.1;omega
 have hS:1≤S∧S≤8:=by have:=h.2.2;omega
 have hz:(List.replicate n ((0:Nat),(0:Nat))).length=n:=ajF;have lf:=nK (B:=B) (p:=p) hB hp;refine zF Jp Tryz.call108 Tryz.func108 [.tmp 6,.tmp 7] fun Q hQ=>?_;unfold YA at hQ;generalize hz0:List.replicate n ((0:Nat),(0:Nat))=z0 at*
 refine ae ?_;refine zW [] [] hnw ?_;refine aF [some 0] [] (lf) ?_
 by_cases h4:p+4≤(bitsOf B).length
 · rw[if_pos h4] at hQ
   have r3:=bN (B:=B) (p:=p) (w:=3) hI hB zd zo;have r1:=qK (B:=B) (p:=p+3) hI hB zo;rw[zZ zo] at r1;dsimp only at r1;rw[show decide (((bitsOf B).getD (p+3) false).toNat=1)=(bitsOf B).getD (p+3) false by cases (bitsOf B).getD (p+3) false<;>rfl] at r1;have hk:numOf (((bitsOf B).drop p).take 3)<8:=bd _ 3;rw[show((3:Nat):Int)=3 from rfl] at r3;generalize numOf (((bitsOf B).drop p).take 3)=s0 at*
   generalize (bitsOf B).getD (p+3) false=fl at*
   have hs1:(s0:Int)+1=((s0+1:Nat):Int):=by omega
   by_cases c1:S<s0+1
   · rw[if_pos (.inl c1)] at hQ
     unfold JS JR at hQ;dsimp only at hQ;refine ae ?_;refine aF [some 0] [] (r3) ?_;refine br hs1 ?_;refine aF [some 0] [] (r1) ?_;refine br hs1 ?_;exact ak [some 0] hQ
   · by_cases c2:fl=true∧s0+1<S
     · rw[if_pos (.inr c2)] at hQ
       obtain ⟨rfl,c2⟩:=c2;unfold JS JR at hQ;dsimp only at hQ;refine ae ?_;refine aF [some 0] [] (r3) ?_;refine br hs1 ?_;refine aF [some 0] [] (r1) ?_;refine br hs1 ?_;exact ak [some 0] hQ
     · rw[if_neg (fun h=>h.elim c1 c2)] at hQ
       refine ae ?_;refine aF [some 0] [] (r3) ?_;refine br hs1 ?_;refine aF [some 0] [] (r1) ?_
       cases hfl:fl with
       | true=>
         subst hfl;have c3:¬s0+1<S:=fun h=>c2 ⟨rfl,h⟩;refine br hs1 ?_
         refine aR (X:=Nat×List Cell×Nat) (st:=fun y=>([(0,.ref 0 0 0 0),(4,.ref 3 0 0 0),(8,.ref 1 0 0 0),(74,.lit (.int .i64 (n:Int))),(75,.lit (.int .i64 (y.1:Int)))],
          [some (dk B y.2.2),some (J2 M D S 2 n (s0+1) true),some (.row 2 (y.2.1.map cV)),some (.cells [.lit (.int .i64 (M:Int)),.lit (.int .i64 (D:Int)),.lit (.int .i64 (S:Int))])]))
          (inv:=fun y=>y.1≤n∧y.2.1.length=n∧y.2.2≤(bitsOf B).length∧qE (bitsOf B) M D n (p+4)=((qE (bitsOf B) M D (n-y.1) y.2.2).1.map (y.2.1.take y.1++ ·),(qE (bitsOf B) M D (n-y.1) y.2.2).2)) (m:=fun y=>n-y.1)
          (0,z0,p+4) [some 0,some 2,some 3,some 1] ⟨ajH _,hz,h4,by simp⟩ ?_
         rintro ⟨i,Y,q⟩ ⟨hi,hY,hq,hr⟩;dsimp only at hi hY hq hr ⊢;have lq:=xA (B:=B) (p:=q) hB zo
         by_cases hil:i<n
         · obtain ⟨c,hc⟩:∃c,n-i=c+1:=⟨n-i-1,by omega⟩
           rw[hc] at hr
           by_cases h2:q+(M+D)≤(bitsOf B).length
           · have ra:=bN (B:=B) (p:=q) (w:=M) hI hB zo zo
             have rb:=bN (B:=B) (p:=q+M) (w:=D) hI hB zo zo;have ka:numOf (((bitsOf B).drop q).take M)<2^M:=bd _ M;have kb:numOf (((bitsOf B).drop (q+M)).take D)<2^D:=bd _ D;have hpM:2^M≤2^16:=ajv zd hM.2;have hpD:2^D≤2^4:=ajv zd hD.2;rw[m9] at hr;rw[if_pos h2] at hr;generalize numOf (((bitsOf B).drop q).take M)=a at*
             generalize numOf (((bitsOf B).drop (q+M)).take D)=b at*
             generalize 2^M=pM at*
             generalize 2^D=pD at*
             by_cases c5:a=0∧0<b
             · rw[if_pos c5] at hr
               rw[hr] at hQ;unfold JS JR at hQ;dsimp only[Option.map] at hQ;obtain ⟨rfl,c6⟩:=c5;refine ae ?_;refine aW (lq) ?_;refine ae ?_;refine zW [some 0] [] ra ?_;refine zW [some 0] [] rb ?_;exact ak [some 0] hQ
             · rw[if_neg c5] at hr
               have hset:(Y.map cV).set i [.lit (.int .i64 (a:Int)),.lit (.int .i64 (b:Int))]=(Y.set i (a,b)).map cV:=by rw[alC];rfl
               have ht:(Y.set i (a,b)).take (i+1)=Y.take i++[(a,b)]:=by
                rw[ajN (by rw[ajR];omega),alu (ajp i)]
                simp
               have hnx:((qE (bitsOf B) M D c (q+M+D)).1.map ((Y.set i (a,b)).take (i+1)++ ·),(qE (bitsOf B) M D c (q+M+D)).2)=qE (bitsOf B) M D n (p+4):=by
                rw[hr,ht,Option.map_map]
                congr 2
                funext l
                simp
               rw[←show n-(i+1)=c by omega] at hnx
               by_cases c6:a=0
               · have c7:b=0:=by omega
                 subst c6 c7;refine ae ?_;refine aW (lq) ?_;refine ae ?_;refine zW [some 0] [] ra ?_;refine aF [some 0] [] (rb) ?_;refine br hset ?_;refine aM (i+1,Y.set i (0,0),q+M+D) [some 0,some 1,some 2,some 3] ⟨hil,by rw[List.length_set];exact hY,by dsimp only;omega,hnx.symm⟩ (by dsimp only;omega)
               · refine ae ?_
                 refine aW (lq) ?_;refine ae ?_;refine zW [some 0] [] ra ?_;refine aF [some 0] [] (rb) ?_;refine br hset ?_;refine aM (i+1,Y.set i (a,b),q+M+D) [some 0,some 1,some 2,some 3] ⟨hil,by rw[List.length_set];exact hY,by dsimp only;omega,hnx.symm⟩ (by dsimp only;omega)
           · rw[m9] at hr
             rw[if_neg h2] at hr;rw[hr] at hQ;unfold JS JR at hQ;dsimp only[Option.map] at hQ;refine ae ?_;refine aW (lq) ?_;exact zE [some 0] hQ
         · obtain rfl:i=n:=by omega
           rw[Nat.sub_self,List.take_of_length_le zo] at hr;rw[hr,xh] at hQ;unfold JS JR at hQ;dsimp only[Option.map] at hQ;rw[List.append_nil] at hQ;exact zE [some 0,some 1] hQ
       | false=>
         subst hfl;refine br hs1 ?_
         refine aR (X:=Nat×List Cell×Nat) (st:=fun y=>([(0,.ref 0 0 0 0),(4,.ref 3 0 0 0),(8,.ref 1 0 0 0),(74,.lit (.int .i64 (n:Int))),(75,.lit (.int .i64 (y.1:Int)))],
          [some (dk B y.2.2),some (J2 M D S 2 n (s0+1) false),some (.row 2 (y.2.1.map cV)),some (.cells [.lit (.int .i64 (M:Int)),.lit (.int .i64 (D:Int)),.lit (.int .i64 (S:Int))])]))
          (inv:=fun y=>y.1≤n∧y.2.1.length=n∧y.2.2≤(bitsOf B).length∧qE (bitsOf B) M D n (p+4)=((qE (bitsOf B) M D (n-y.1) y.2.2).1.map (y.2.1.take y.1++ ·),(qE (bitsOf B) M D (n-y.1) y.2.2).2)) (m:=fun y=>n-y.1)
          (0,z0,p+4) [some 0,some 2,some 3,some 1] ⟨ajH _,hz,h4,by simp⟩ ?_
         rintro ⟨i,Y,q⟩ ⟨hi,hY,hq,hr⟩;dsimp only at hi hY hq hr ⊢;have lq:=xA (B:=B) (p:=q) hB zo
         by_cases hil:i<n
         · obtain ⟨c,hc⟩:∃c,n-i=c+1:=⟨n-i-1,by omega⟩
           rw[hc] at hr
           by_cases h2:q+(M+D)≤(bitsOf B).length
           · have ra:=bN (B:=B) (p:=q) (w:=M) hI hB zo zo
             have rb:=bN (B:=B) (p:=q+M) (w:=D) hI hB zo zo;have ka:numOf (((bitsOf B).drop q).take M)<2^M:=bd _ M;have kb:numOf (((bitsOf B).drop (q+M)).take D)<2^D:=bd _ D;have hpM:2^M≤2^16:=ajv zd hM.2;have hpD:2^D≤2^4:=ajv zd hD.2;rw[m9] at hr;rw[if_pos h2] at hr;generalize numOf (((bitsOf B).drop q).take M)=a at*
             generalize numOf (((bitsOf B).drop (q+M)).take D)=b at*
             generalize 2^M=pM at*
             generalize 2^D=pD at*
             by_cases c5:a=0∧0<b
             · rw[if_pos c5] at hr
               rw[hr] at hQ;unfold JS JR at hQ;dsimp only[Option.map] at hQ;obtain ⟨rfl,c6⟩:=c5;refine ae ?_;refine aW (lq) ?_;refine ae ?_;refine zW [some 0] [] ra ?_;refine zW [some 0] [] rb ?_;exact ak [some 0] hQ
             · rw[if_neg c5] at hr
               have hset:(Y.map cV).set i [.lit (.int .i64 (a:Int)),.lit (.int .i64 (b:Int))]=(Y.set i (a,b)).map cV:=by rw[alC];rfl
               have ht:(Y.set i (a,b)).take (i+1)=Y.take i++[(a,b)]:=by
                rw[ajN (by rw[ajR];omega),alu (ajp i)]
                simp
               have hnx:((qE (bitsOf B) M D c (q+M+D)).1.map ((Y.set i (a,b)).take (i+1)++ ·),(qE (bitsOf B) M D c (q+M+D)).2)=qE (bitsOf B) M D n (p+4):=by
                rw[hr,ht,Option.map_map]
                congr 2
                funext l
                simp
               rw[←show n-(i+1)=c by omega] at hnx
               by_cases c6:a=0
               · have c7:b=0:=by omega
                 subst c6 c7;refine ae ?_;refine aW (lq) ?_;refine ae ?_;refine zW [some 0] [] ra ?_;refine aF [some 0] [] (rb) ?_;refine br hset ?_;refine aM (i+1,Y.set i (0,0),q+M+D) [some 0,some 1,some 2,some 3] ⟨hil,by rw[List.length_set];exact hY,by dsimp only;omega,hnx.symm⟩ (by dsimp only;omega)
               · refine ae ?_
                 refine aW (lq) ?_;refine ae ?_;refine zW [some 0] [] ra ?_;refine aF [some 0] [] (rb) ?_;refine br hset ?_;refine aM (i+1,Y.set i (a,b),q+M+D) [some 0,some 1,some 2,some 3] ⟨hil,by rw[List.length_set];exact hY,by dsimp only;omega,hnx.symm⟩ (by dsimp only;omega)
           · rw[m9] at hr
             rw[if_neg h2] at hr;rw[hr] at hQ;unfold JS JR at hQ;dsimp only[Option.map] at hQ;refine ae ?_;refine aW (lq) ?_;exact zE [some 0] hQ
         · obtain rfl:i=n:=by omega
           rw[Nat.sub_self,List.take_of_length_le zo] at hr;rw[hr,xh] at hQ;unfold JS JR at hQ;dsimp only[Option.map] at hQ;rw[List.append_nil] at hQ;exact zE [some 0,some 1] hQ
 · rw[if_neg h4] at hQ
   unfold JS JR at hQ;dsimp only at hQ;exact zE [some 0] hQ
theorem HB (k a b:Nat):fj k a b (0,0,false)=0:=by
 have e:cD k a b (0,0,false)=numBits 0 (wd k a b):=by
  unfold cD wd;rw[gP,gP,gP,List.replicate_succ',←List.replicate_append_replicate]
 unfold fj;rw[e,aX,Nat.zero_mod]
def zs (C:Nat):List SR:=List.replicate C (0,0,false)
theorem JN (k a b C:Nat):bg k a b (zs C)=0:=by
 unfold bg zs;rw[List.map_replicate,HB,gY]
theorem DC {k a b:Nat}:aP k a b (0,0,false):=by
 unfold aP
 split
 · exact⟨ajH _,ajH _,fun h=>by cases h⟩
 · exact⟨rfl,ajH _,fun h=>by cases h⟩
theorem IW {k a b n:Nat} (h:aL k a b) (hn:1≤n∧n≤256):aA Tryz.prog 79 [pR k a b,.lit (.int .i64 (n:Int))] [] (.tup [kA k a b n (wd k a b) (bg k a b (zs n)),.lit (.int .i64 0)]) []:=by
 have cr:=oe h hn;rw[JN]
 have aux:∀x,aA Tryz.prog 79 [pR k a b,.lit (.int .i64 (n:Int))] [] (.tup [.ref 0 0 0 0,.lit (.int .i64 0)]) [some (cP 1 k a b),some (cC 2 n (wd k a b)),some (ch n (wd k a b) x)]→aA Tryz.prog 79 [pR k a b,.lit (.int .i64 (n:Int))] [] (.tup [kA k a b n (wd k a b) x,.lit (.int .i64 0)]) []:=by
  intro x cr;have hlw:=aq (aZ n (wd k a b)) x;exact kS [] (cr)
 exact aux 0 cr
def hV (h:Nat×Nat):List PV:=[.lit (.int .u64 (h.1:Int)),.lit (.int .u64 (h.2:Int))]
attribute [go_sem] hV
def rws (C:Nat) (l:List (Nat×Nat)):List RW:=l.map fun h=>(h.1,h.2,zs C)
theorem Ei {C k a b:Nat} {hs:List (Nat×Nat)} (hR:1≤hs.length∧hs.length≤4) (hC:1≤C∧C≤64) (h:aL k a b) (hh:∀x∈hs,x.1<2305843009213693951∧x.2<2305843009213693951):
 aA Tryz.prog 31 [.agg [.lit (.int .i64 (hs.length:Int)),.lit (.int .i64 (C:Int)),.lit (.int .i64 (k:Int)),.lit (.int .i64 (a:Int)),.lit (.int .i64 (b:Int))],.row 2 (hs.map hV)] [] (.tup [.ref 0 0 0 0,.lit (.int .i64 0)]) [some (fy hs.length C k a b (rws C hs) 0)]:=by
 have ck:=qI (R:=(hs.length:Int)) (C:=(C:Int)) ⟨by omega,by omega,by omega,by omega⟩ h;have nw:=IW (n:=C) h ⟨hC.1,by omega⟩;refine zF VV Tryz.call31 Tryz.func31 [.tmp 4,.tmp 5] fun Q hQ=>?_;refine ae ?_;refine zC ck ?_
 refine aT (X:=Nat) (st:=fun i=>([(2,.ref 0 0 0 0),(7,.ref 1 0 0 0),(28,.row 2 (hs.map hV)),(29,.lit (.int .i64 (hs.length:Int))),(30,.lit (.int .i64 (i:Int)))],
  [some (.cells [.lit (.int .i64 (hs.length:Int)),.lit (.int .i64 (C:Int)),.lit (.int .i64 (k:Int)),.lit (.int .i64 (a:Int)),.lit (.int .i64 (b:Int))]),some (.cells [.lit (.int .i64 (hs.length:Int)),.lit (.int .i64 (C:Int)),.lit (.int .i64 (k:Int)),.lit (.int .i64 (a:Int)),.lit (.int .i64 (b:Int)),.sl 2 3 0 i,.lit (.int .i64 0)]),some (.row 3 ((rws C (hs.take i)).map (fW k a b C)))]))
  (inv:=fun i=>i≤hs.length) (m:=fun i=>hs.length-i) 0 [some 0,some 1,none] rfl ?_ zM (ajH _) ?_
 · dsimp only
   (simp(disch:=(first | omega | (simp only[cQ,ajl,ajo,true_and,and_true];(try omega);done) | fail)) only[go_sem,Int.reduceEq,Int.reduceToNat,Nat.reduceAdd,Nat.reduceMul,Nat.reduceEqDiff, ↓reduceIte,true_and,and_true,and_self,ajE,ajz,ajp,V.lit.injEq,Value.int.injEq,Value.bool.injEq];try (first | omega | (simp;done) | (simp;omega)))
   rfl
 intro i hi
 by_cases hil:i<hs.length
 · have hx:=hh (hs.getD i default) (by rw[ajk,ajm hil];exact akA _)
   have ht:rws C (hs.take (i+1))=rws C (hs.take i)++[((hs.getD i default).1,(hs.getD i default).2,zs C)]:=by
    unfold rws;rw[ajN hil,akX,ajk,ajm hil]
    rfl
   have hlr:(rws C (hs.take i)).length=i:=by unfold rws;rw[ajl,ajt];omega
   generalize rws C (hs.take i)=l at*
   obtain ⟨⟨A,B⟩,ea⟩:∃a,hs.getD i default=a:=⟨_,rfl⟩;rw[ea] at ht hx;dsimp only at hx ht;have hc:=uJ (A:=A) (B:=B);rw[if_pos hx] at hc;refine br ea ?_;refine zC hc ?_;refine zC nw ?_;refine aH (i+1) [some 0,some 1,some 5] rfl ?_ zM zo zo;rw[ht,List.map_append];simp only[List.map_cons,List.map_nil,fW,jV]
   (simp(disch:=(first | omega | (simp only[cQ,ajl,ajo,true_and,and_true];(try omega);done) | fail)) only[go_sem,Int.reduceEq,Int.reduceToNat,Nat.reduceAdd,Nat.reduceMul,Nat.reduceEqDiff, ↓reduceIte,true_and,and_true,and_self,ajE,ajz,ajp,V.lit.injEq,Value.int.injEq,Value.bool.injEq];try (first | omega | (simp;done) | (simp;omega)))
 · obtain rfl:i=hs.length:=by omega
   rw[ajz];have hlr:(rws C hs).length=hs.length:=by unfold rws;rw[ajl]
   generalize rws C hs=l at*
   generalize hs.length=n at*
   subst hlr;exact zE [some 1] hQ
end Go.Proofs.YtcnlmelpnflhnaaGreat
