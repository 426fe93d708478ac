import Derived.Test.YtcnlmelpnflhnaaGreatOg
import Derived.Test.YtcnlmelpnflhnaaGreatFw
import Derived.Test.YtcnlmelpnflhnaaGreatBf
import Derived.Test.YtcnlmelpnflhnaaGreatHd
import Derived.Test.YtcnlmelpnflhnaaGreatAa
import Derived.Test.YtcnlmelpnflhnaaGreatOb
import Derived.Test.YtcnlmelpnflhnaaGreatAb
import Derived.Test.YtcnlmelpnflhnaaGreatBk
namespace Go.Proofs.YtcnlmelpnflhnaaGreat
open Go.Eng Go.Vx
set_option linter.unusedSimpArgs false
set_option linter.unusedVariables false
set_option maxRecDepth 100000
def HM (B:List Int) (p:Nat):V:=.rref 2 [[.row 1 (B.map (ie .u8)),.I p]] 0 0
attribute [go_sem] HM
theorem xZ {B:List Int} {p:Nat} (hB:B.length≤1099511627776) (hp:p≤8*B.length):aA Tryz.prog 102 [HM B p] [] (.I ((8*B.length-p:Nat):Int)) []:=by
 refine zF DW Tryz.call102 Tryz.func102 [.tmp 2] fun Q hQ=>?_;refine ae ?_;rw[show((8:Int)*(B.length:Int)-(p:Int))=((8*B.length-p:Nat):Int) by omega];exact ai [] hQ
theorem zz {M D S n:Nat} (h:mj M D S) (hn:1≤n∧n≤256):aA Tryz.prog 26 [pA M D S,.I n] [] (.tup [.ref 0 0 0 0,.I 0])
 [some (Ly M D S 1 n 1 false),some (.row 2 ((List.replicate n ((0:Nat),(0:Nat))).map cV))]:=by
 have hc:=vt h;have w:=dY (n:=(n:Int)) (m:=256);rw[aks (show(1:Int)≤(n:Int)∧(n:Int)≤256 by omega)] at w;have e:(List.replicate n ((0:Nat),(0:Nat))).map cV=dV [.int .i64 0,.int .i64 0] n:=by rw[List.map_replicate];rfl
 have el:(dV [Value.int IntKind.i64 0,Value.int IntKind.i64 0] n).length=n:=by unfold dV;rw[akB]
 refine zF Ra Tryz.call26 Tryz.func26 [.tmp 4,.tmp 5] fun Q hQ=>?_;unfold Ly at hQ;rw[e,show((1:Nat):Int)=1 from rfl] at hQ;refine ae ?_;refine zC hc ?_;refine zC w ?_;generalize dV [Value.int IntKind.i64 0,Value.int IntKind.i64 0] n=zr at*
 exact ai [some 2,some 1] hQ
def GF (r:Option SS×Nat×Int):V:=match r.1 with
 | some _=>.tup [.ref 1 0 0 0,.I 0]
 | none=>.tup [.lit (.pointer none),.I r.2.2]
def GC (M D S:Nat) (B:List Int) (r:Option SS×Nat×Int):St:=match r.1 with
 | some x=> [some (bU B r.2.1),some (zG M D S x)]
 | none=> [some (bU B r.2.1)]
set_option maxHeartbeats 8000000 in
theorem KE {M D S n p:Nat} {B:List Int} (h:mj M D S) (hn:1≤n∧n≤256) (hI:gQ B) (hB:B.length≤1099511627776) (hp:p≤8*B.length):
 aA Tryz.prog 108 [.ref 0 0 0 0,pA M D S,.I n] [some (bU B p)] (GF (vf (bitsOf B) M D S n p)) (GC M D S B (vf (bitsOf B) M D S n p)):=by
 have hnw:=zz h hn;have hbl:=aG B;have hM:1≤M∧M≤16:=by have:=h.1;omega
 have hD:1≤D∧D≤4:=by have:=h.2.1;omega
 have hS:1≤S∧S≤8:=by have:=h.2.2;omega
 have hz:(List.replicate n ((0:Nat),(0:Nat))).length=n:=akB;have lf:=nX (B:=B) (p:=p) hB hp;refine zF DS Tryz.call108 Tryz.func108 [.tmp 6,.tmp 7] fun Q hQ=>?_;unfold vf at hQ;generalize hz0:List.replicate n ((0:Nat),(0:Nat))=z0 at*
 refine ae ?_;refine zW [] [] hnw ?_;refine aF [some 0] [] (lf) ?_
 by_cases h4:p+4≤(bitsOf B).length
 · rw[if_pos h4] at hQ
   have r3:=aP (B:=B) (p:=p) (w:=3) hI hB zd zo;have r1:=rk (B:=B) (p:=p+3) hI hB zo;rw[As zo] at r1;dsimp only at r1;rw[show decide (((bitsOf B).getD (p+3) false).toNat=1)=(bitsOf B).getD (p+3) false by cases (bitsOf B).getD (p+3) false<;>rfl] at r1;have hk:numOf (((bitsOf B).drop p).take 3)<8:=aL _ 3;rw[show((3:Nat):Int)=3 from rfl] at r3;generalize numOf (((bitsOf B).drop p).take 3)=s0 at*
   generalize (bitsOf B).getD (p+3) false=fl at*
   have hs1:(s0:Int)+1=((s0+1:Nat):Int):=by omega
   by_cases c1:S<s0+1
   · rw[if_pos (.inl c1)] at hQ
     unfold GF GC at hQ;dsimp only at hQ;refine ae ?_;refine aF [some 0] [] (r3) ?_;refine bg hs1 ?_;refine aF [some 0] [] (r1) ?_;refine bg hs1 ?_;exact ai [some 0] hQ
   · by_cases c2:fl=true∧s0+1<S
     · rw[if_pos (.inr c2)] at hQ
       obtain ⟨rfl,c2⟩:=c2;unfold GF GC at hQ;dsimp only at hQ;refine ae ?_;refine aF [some 0] [] (r3) ?_;refine bg hs1 ?_;refine aF [some 0] [] (r1) ?_;refine bg hs1 ?_;exact ai [some 0] hQ
     · rw[if_neg (fun h=>h.elim c1 c2)] at hQ
       refine ae ?_;refine aF [some 0] [] (r3) ?_;refine bg hs1 ?_;refine aF [some 0] [] (r1) ?_
       cases hfl:fl with
       | true=>
         subst hfl;have c3:¬s0+1<S:=fun h=>c2 ⟨rfl,h⟩;refine bg hs1 ?_
         refine aU (X:=Nat×List Cell×Nat) (st:=fun y=>([(0,.ref 0 0 0 0),(4,.ref 3 0 0 0),(8,.ref 1 0 0 0),(74,.I n),(75,.I y.1)],
          [some (bU B y.2.2),some (Ly M D S 2 n (s0+1) true),some (.row 2 (y.2.1.map cV)),some (.cells [.I M,.I D,.I S])]))
          (inv:=fun y=>y.1≤n∧y.2.1.length=n∧y.2.2≤(bitsOf B).length∧i7 (bitsOf B) M D n (p+4)=((i7 (bitsOf B) M D (n-y.1) y.2.2).1.map (y.2.1.take y.1++ ·),(i7 (bitsOf B) M D (n-y.1) y.2.2).2)) (m:=fun y=>n-y.1)
          (0,z0,p+4) [some 0,some 2,some 3,some 1] ⟨akF _,hz,h4,by simp⟩ ?_
         rintro ⟨i,Y,q⟩ ⟨hi,hY,hq,hr⟩;dsimp only at hi hY hq hr ⊢;have lq:=xZ (B:=B) (p:=q) hB zo
         by_cases hil:i<n
         · obtain ⟨c,hc⟩:∃c,n-i=c+1:=⟨n-i-1,by omega⟩
           rw[hc] at hr
           by_cases h2:q+(M+D)≤(bitsOf B).length
           · have ra:=aP (B:=B) (p:=q) (w:=M) hI hB zo zo
             have rb:=aP (B:=B) (p:=q+M) (w:=D) hI hB zo zo;have ka:numOf (((bitsOf B).drop q).take M)<2^M:=aL _ M;have kb:numOf (((bitsOf B).drop (q+M)).take D)<2^D:=aL _ D;have hpM:2^M≤2^16:=ako zd hM.2;have hpD:2^D≤2^4:=ako zd hD.2;rw[nv] at hr;rw[if_pos h2] at hr;generalize numOf (((bitsOf B).drop q).take M)=a at*
             generalize numOf (((bitsOf B).drop (q+M)).take D)=b at*
             generalize 2^M=pM at*
             generalize 2^D=pD at*
             by_cases c5:a=0∧0<b
             · rw[if_pos c5] at hr
               rw[hr] at hQ;unfold GF GC at hQ;dsimp only[Option.map] at hQ;obtain ⟨rfl,c6⟩:=c5;refine ae ?_;refine ch (lq) ?_;refine ae ?_;refine zW [some 0] [] ra ?_;refine zW [some 0] [] rb ?_;exact ai [some 0] hQ
             · rw[if_neg c5] at hr
               have hset:(Y.map cV).set i [.I a,.I b]=(Y.set i (a,b)).map cV:=by rw[amD];rfl
               have ht:(Y.set i (a,b)).take (i+1)=Y.take i++[(a,b)]:=by
                rw[akL (by rw[akJ];omega),amv (akk i)]
                simp
               have hnx:((i7 (bitsOf B) M D c (q+M+D)).1.map ((Y.set i (a,b)).take (i+1)++ ·),(i7 (bitsOf B) M D c (q+M+D)).2)=i7 (bitsOf B) M D n (p+4):=by
                rw[hr,ht,Option.map_map]
                congr 2
                funext l
                simp
               rw[←show n-(i+1)=c by omega] at hnx
               by_cases c6:a=0
               · have c7:b=0:=by omega
                 subst c6 c7;refine ae ?_;refine ch (lq) ?_;refine ae ?_;refine zW [some 0] [] ra ?_;refine aF [some 0] [] (rb) ?_;refine bg hset ?_;refine aR (i+1,Y.set i (0,0),q+M+D) [some 0,some 1,some 2,some 3] ⟨hil,by rw[List.length_set];exact hY,by dsimp only;omega,hnx.symm⟩ (by dsimp only;omega)
               · refine ae ?_
                 refine ch (lq) ?_;refine ae ?_;refine zW [some 0] [] ra ?_;refine aF [some 0] [] (rb) ?_;refine bg hset ?_;refine aR (i+1,Y.set i (a,b),q+M+D) [some 0,some 1,some 2,some 3] ⟨hil,by rw[List.length_set];exact hY,by dsimp only;omega,hnx.symm⟩ (by dsimp only;omega)
           · rw[nv] at hr
             rw[if_neg h2] at hr;rw[hr] at hQ;unfold GF GC at hQ;dsimp only[Option.map] at hQ;refine ae ?_;refine ch (lq) ?_;exact zE [some 0] hQ
         · obtain rfl:i=n:=by omega
           rw[Nat.sub_self,List.take_of_length_le zo] at hr;rw[hr,xH] at hQ;unfold GF GC at hQ;dsimp only[Option.map] at hQ;rw[List.append_nil] at hQ;exact zE [some 0,some 1] hQ
       | false=>
         subst hfl;refine bg hs1 ?_
         refine aU (X:=Nat×List Cell×Nat) (st:=fun y=>([(0,.ref 0 0 0 0),(4,.ref 3 0 0 0),(8,.ref 1 0 0 0),(74,.I n),(75,.I y.1)],
          [some (bU B y.2.2),some (Ly M D S 2 n (s0+1) false),some (.row 2 (y.2.1.map cV)),some (.cells [.I M,.I D,.I S])]))
          (inv:=fun y=>y.1≤n∧y.2.1.length=n∧y.2.2≤(bitsOf B).length∧i7 (bitsOf B) M D n (p+4)=((i7 (bitsOf B) M D (n-y.1) y.2.2).1.map (y.2.1.take y.1++ ·),(i7 (bitsOf B) M D (n-y.1) y.2.2).2)) (m:=fun y=>n-y.1)
          (0,z0,p+4) [some 0,some 2,some 3,some 1] ⟨akF _,hz,h4,by simp⟩ ?_
         rintro ⟨i,Y,q⟩ ⟨hi,hY,hq,hr⟩;dsimp only at hi hY hq hr ⊢;have lq:=xZ (B:=B) (p:=q) hB zo
         by_cases hil:i<n
         · obtain ⟨c,hc⟩:∃c,n-i=c+1:=⟨n-i-1,by omega⟩
           rw[hc] at hr
           by_cases h2:q+(M+D)≤(bitsOf B).length
           · have ra:=aP (B:=B) (p:=q) (w:=M) hI hB zo zo
             have rb:=aP (B:=B) (p:=q+M) (w:=D) hI hB zo zo;have ka:numOf (((bitsOf B).drop q).take M)<2^M:=aL _ M;have kb:numOf (((bitsOf B).drop (q+M)).take D)<2^D:=aL _ D;have hpM:2^M≤2^16:=ako zd hM.2;have hpD:2^D≤2^4:=ako zd hD.2;rw[nv] at hr;rw[if_pos h2] at hr;generalize numOf (((bitsOf B).drop q).take M)=a at*
             generalize numOf (((bitsOf B).drop (q+M)).take D)=b at*
             generalize 2^M=pM at*
             generalize 2^D=pD at*
             by_cases c5:a=0∧0<b
             · rw[if_pos c5] at hr
               rw[hr] at hQ;unfold GF GC at hQ;dsimp only[Option.map] at hQ;obtain ⟨rfl,c6⟩:=c5;refine ae ?_;refine ch (lq) ?_;refine ae ?_;refine zW [some 0] [] ra ?_;refine zW [some 0] [] rb ?_;exact ai [some 0] hQ
             · rw[if_neg c5] at hr
               have hset:(Y.map cV).set i [.I a,.I b]=(Y.set i (a,b)).map cV:=by rw[amD];rfl
               have ht:(Y.set i (a,b)).take (i+1)=Y.take i++[(a,b)]:=by
                rw[akL (by rw[akJ];omega),amv (akk i)]
                simp
               have hnx:((i7 (bitsOf B) M D c (q+M+D)).1.map ((Y.set i (a,b)).take (i+1)++ ·),(i7 (bitsOf B) M D c (q+M+D)).2)=i7 (bitsOf B) M D n (p+4):=by
                rw[hr,ht,Option.map_map]
                congr 2
                funext l
                simp
               rw[←show n-(i+1)=c by omega] at hnx
               by_cases c6:a=0
               · have c7:b=0:=by omega
                 subst c6 c7;refine ae ?_;refine ch (lq) ?_;refine ae ?_;refine zW [some 0] [] ra ?_;refine aF [some 0] [] (rb) ?_;refine bg hset ?_;refine aR (i+1,Y.set i (0,0),q+M+D) [some 0,some 1,some 2,some 3] ⟨hil,by rw[List.length_set];exact hY,by dsimp only;omega,hnx.symm⟩ (by dsimp only;omega)
               · refine ae ?_
                 refine ch (lq) ?_;refine ae ?_;refine zW [some 0] [] ra ?_;refine aF [some 0] [] (rb) ?_;refine bg hset ?_;refine aR (i+1,Y.set i (a,b),q+M+D) [some 0,some 1,some 2,some 3] ⟨hil,by rw[List.length_set];exact hY,by dsimp only;omega,hnx.symm⟩ (by dsimp only;omega)
           · rw[nv] at hr
             rw[if_neg h2] at hr;rw[hr] at hQ;unfold GF GC at hQ;dsimp only[Option.map] at hQ;refine ae ?_;refine ch (lq) ?_;exact zE [some 0] hQ
         · obtain rfl:i=n:=by omega
           rw[Nat.sub_self,List.take_of_length_le zo] at hr;rw[hr,xH] at hQ;unfold GF GC at hQ;dsimp only[Option.map] at hQ;rw[List.append_nil] at hQ;exact zE [some 0,some 1] hQ
 · rw[if_neg h4] at hQ
   unfold GF GC at hQ;dsimp only at hQ;exact zE [some 0] hQ
theorem FB {K P C:Int} {p:Nat} {B:List Int} (h:¬mz K P C):aA Tryz.prog 110 [.ref 0 0 0 0,.agg [.I K,.I P,.I C]] [some (bU B p)]
 (.tup [.lit (.pointer none),.I 10]) [some (bU B p)]:=by
 have an:=Lc h;refine zF pl Tryz.call110 Tryz.func110 [.tmp 4,.tmp 5] fun Q hQ=>?_;refine ae ?_;refine zC an ?_;exact ai [some 0] hQ
theorem FY {M D S n:Int} {p:Nat} {B:List Int} (h:¬(mj M D S∧1≤n∧n≤256)):aA Tryz.prog 108 [.ref 0 0 0 0,.agg [.I M,.I D,.I S],.I n] [some (bU B p)]
 (.tup [.lit (.pointer none),.I 10]) [some (bU B p)]:=by
 have sn:=IG h;refine zF DS Tryz.call108 Tryz.func108 [.tmp 6,.tmp 7] fun Q hQ=>?_;refine ae ?_;refine zC sn ?_;exact ai [some 0] hQ
open Go.Eng
def fY (L:List Bool) (N key:Nat):List (Nat×Nat)→Nat→Option (List (Nat×Nat)×Nat)
 | [],p=>some ([],p)
 | x::xs,p=>if (cq L N p).2.1=0 then(fY L N key xs (cq L N p).2.2.1).map fun r=>(P1 key (cq L N p).1 x::r.1,r.2) else none
theorem vx {L:List Bool} {n p:Nat} (hn:0<n) (h:(cq L n p).2.1=0):(cq L n p).2.2.2=false∧(cq L n p).1<n:=by
 rcases oa (L:=L) (p:=p) hn with e | ⟨x,q,hx,e⟩
 · rw[e] at h;exact absurd h (show¬(8:Int)=0 by decide)
 · rw[e];exact⟨rfl,hx⟩
theorem Cb {L:List Bool} {n p:Nat} (hn:0<n) (h:(cq L n p).2.1≠0):cq L n p=(0,8,L.length,true):=by
 rcases oa (L:=L) (p:=p) hn with e | ⟨x,q,hx,e⟩
 · exact e
 · rw[e] at h;exact absurd rfl h
theorem L8 {L:List Bool} {N key:Nat}:∀{X:List (Nat×Nat)} {p:Nat} {X':List (Nat×Nat)} {q:Nat},p≤L.length→fY L N key X p=some (X',q)→p≤q∧q≤L.length∧X'.length=X.length:=by
 intro X
 induction X with
 | nil=>
   intro p X' q hp h;unfold fY at h
   cases h
   exact⟨akk _,hp,rfl⟩
 | cons x xs ih=>
   intro p X' q hp h;unfold fY at h
   split at h
   · rename_i h0
     obtain ⟨e1,e2⟩:=tF (L:=L) (n:=N) hp
     cases hr:fY L N key xs (cq L N p).2.2.1 with
     | none=>rw[hr] at h;cases h
     | some r=>
       obtain ⟨r1,r2⟩:=r;rw[hr] at h
       cases h
       obtain ⟨a,b,c⟩:=ih e2 hr;exact⟨by omega,b,by simp[c]⟩
   · cases h
theorem s7 {L:List Bool} {N key:Nat} (hN:0<N) {A B:Nat×Nat→Prop} (hAB:∀x a,a<N→A x→B (P1 key a x)):∀{X:List (Nat×Nat)} {p:Nat} {X':List (Nat×Nat)} {q:Nat},(∀x∈X,A x)→fY L N key X p=some (X',q)→∀x∈X',B x:=by
 intro X
 induction X with
 | nil=>
   intro p X' q _ h;unfold fY at h
   cases h
   exact fun x hx=>by cases hx
 | cons x xs ih=>
   intro p X' q hX h;unfold fY at h
   split at h
   · rename_i h0
     cases hr:fY L N key xs (cq L N p).2.2.1 with
     | none=>rw[hr] at h;cases h
     | some r=>
       obtain ⟨r1,r2⟩:=r;rw[hr] at h
       cases h
       intro y hy;rcases aky.1 hy with e | e
       · rw[e];exact hAB x _ (vx hN h0).2 (hX x (by simp))
       · exact ih (fun z hz=>hX z (by simp[hz])) hr y e
   · cases h
def alone (key N:Nat) (x:Nat×Nat):Prop:=x.1=key∧1≤x.2∧x.2≤N
theorem Oj {L:List Bool} {N key B:Nat} {X X':List (Nat×Nat)} {p q:Nat} (hk:key<B) (hX:∀x∈X,x.1<B∧x.2≤N) (h:fY L (N+1) key X p=some (X',q)):∀x∈X',x.1<B∧x.2≤N+1:=by
 refine s7 (al8 N) (A:=fun x=>x.1<B∧x.2≤N) (fun x a ha hx=>?_) hX h;unfold P1
 split
 · exact⟨hk,by show 1≤N+1;omega⟩
 · split
   · exact⟨hx.1,by show x.2+1≤N+1;omega⟩
   · exact⟨hx.1,by omega⟩
theorem Fa {X:List (Nat×Nat)} (hX:X.length≤1000000) (h:X≠ []):aA Tryz.prog 114 [.row 2 (X.map sV)] [] (.sl 0 2 0 X.length) [some (.row 2 (X.map sV))]:=by
 refine zF pl Tryz.call114 Tryz.func114 [.tmp 2] fun Q hQ=>?_;have he:(X.map sV).isEmpty=false:=by simp[h]
 refine bg he ?_;exact ai [some 1] hQ
theorem vg {K P C:Int} {X:List (Nat×Nat)} {N:Nat} (hX:X.length≤1000000) (h:X≠ []):aA Tryz.prog 55 [L4 K P C X N] [] (.ref 0 0 0 0)
 [some (.cells [.I K,.I P,.I C,.sl 1 2 0 X.length,.I N]),some (.row 2 (X.map sV))]:=by
 have hc:=Fa hX h;refine zF YN Tryz.call55 Tryz.func55 [.tmp 2] fun Q hQ=>?_;refine ae ?_;refine dk (hc) ?_;exact zE [some 1,some 0] hQ
theorem Ol {K P C:Int} {X:List (Nat×Nat)} {N key p:Nat} {L:List Bool} (hX:X.length≤1000000) (h:X≠ []) (hk:key<2305843009213693951) (hN:N<1048576) (hL:L.length≤1048576) (hp:p≤L.length) (hR:∀x∈X,x.2≤1048576):
 aA Tryz.prog 20 [.ref 0 0 0 0,.ref 1 0 0 0,.lit (.int .u64 key)] [some (oH K P C X N),some (bm L p false)]
 (.I (match fY L (N+1) key X p with | some _=>0 | none=>8))
 (match fY L (N+1) key X p with | some r=> [some (oH K P C r.1 (N+1)),some (bm L r.2 false)] | none=> [some (oH K P C X N),some (bm L L.length true)]):=by
 have hc:=vg (K:=K) (P:=P) (C:=C) (N:=N) hX h;have hN1:(N:Int)+1=((N+1:Nat):Int):=by omega
 refine zF pl Tryz.call20 Tryz.func20 [.tmp 6] fun Q hQ=>?_;refine ae ?_;refine dk (hc) ?_;refine ae ?_
 refine aU (X:=Nat×List (Nat×Nat)×Nat) (st:=fun y=>([(0,.ref 0 0 0 0),(1,.ref 1 0 0 0),(2,.lit (.int .u64 key)),(7,.ref 2 0 0 0),(34,.I X.length),(35,.I y.1)],[some (oH K P C X N),some (bm L y.2.2 false),some (.cells [.I K,.I P,.I C,.sl 3 2 0 X.length,.I ((N+1:Nat):Int)]),some (.row 2 (y.2.1.map sV))]))
  (inv:=fun y=>y.1≤X.length∧y.2.1.length=X.length∧y.2.2≤L.length∧fY L (N+1) key X p=(fY L (N+1) key (y.2.1.drop y.1) y.2.2).map (fun r=>(y.2.1.take y.1++r.1,r.2))∧∀x∈y.2.1.drop y.1,x.2≤1048576) (m:=fun y=>X.length-y.1) (0,X,p) [some 0,some 1,some 2,some 3] ⟨akF _,rfl,hp,by simp,by simpa using hR⟩ ?_
 rintro ⟨i,Y,q⟩ ⟨hi,hY,hq,hu,hR2⟩;dsimp only at hi hY hq hu hR2 ⊢
 by_cases hil:i<X.length
 · have hiY:i<Y.length:=by omega
   have hdr:Y.drop i=Y[i]::Y.drop (i+1):=ak3 hiY;have hget:Y.getD i default=Y[i]:=by rw[akf,akh hiY];rfl
   have hx2:Y[i].2≤1048576:=hR2 Y[i] (by rw[hdr];exact amr);have hset:∀z:Nat×Nat,(Y.map sV).set i [.lit (.int .u64 z.1),.I z.2]=(Y.set i z).map sV:=fun z=>by rw[amD];rfl
   have hb:=G9 (L:=L) (n:=N+1) (p:=q) hL hq zo zo;have hub:fY L (N+1) key (Y.drop i) q=if (cq L (N+1) q).2.1=0 then(fY L (N+1) key (Y.drop (i+1)) (cq L (N+1) q).2.2.1).map fun r=>(P1 key (cq L (N+1) q).1 Y[i]::r.1,r.2) else none:=by rw[hdr];rfl
   have hnext:∀z q',fY L (N+1) key (Y.drop i) q=(fY L (N+1) key (Y.drop (i+1)) q').map (fun r=>(z::r.1,r.2))→fY L (N+1) key X p=(fY L (N+1) key ((Y.set i z).drop (i+1)) q').map (fun r=>((Y.set i z).take (i+1)++r.1,r.2)):=by
    intro z q' e;have e1:(Y.set i z).drop (i+1)=Y.drop (i+1):=by rw[amx zo]
    have e2:(Y.set i z).take (i+1)=Y.take i++[z]:=by
     rw[akL (by simpa using hiY),amv (akk i)]
     simp
    rw[hu,e,e1,e2,Option.map_map]
    congr 1
    funext r
    simp
   have hR3:∀z,∀x∈(Y.set i z).drop (i+1),x.2≤1048576:=by
    intro z x hx;rw[amx zo] at hx;exact hR2 x (by rw[hdr];exact alI _ hx)
   by_cases h0:(cq L (N+1) q).2.1=0
   · obtain ⟨hd,hlt⟩:=vx (al8 N) h0
     have hend:=tF (L:=L) (n:=N+1) hq;rw[if_pos h0] at hub;rw[hd,h0] at hb;have hn:=hnext _ _ hub;have hself:Y.set i Y[i]=Y:=List.set_getElem_self _;have hlen:∀z,(Y.set i z).length=X.length:=fun z=>by rw[akJ];exact hY
     generalize (cq L (N+1) q).2.2.1=q' at*
     generalize (cq L (N+1) q).1=a at*
     generalize Y[i]=x at*
     unfold P1 at hn
     by_cases ha:a=0
     · rw[if_pos ha] at hn
       have hs:(Y.map sV).set i [.lit (.int .u64 key),.I 1]=(Y.set i (key,1)).map sV:=hset (key,1);subst ha;refine bg hget ?_;refine aF [some 1] [] (hb) ?_;refine eo hget hs ?_;refine aR (i+1,Y.set i (key,1),q') [some 0,some 1,some 2,some 3] ⟨hil,hlen _,hend.2,hn,hR3 _⟩ (by dsimp only;omega)
     · rw[if_neg ha] at hn
       by_cases hxk:x.1=key
       · rw[if_pos hxk] at hn
         have hs:=hset (x.1,x.2+1);have hx1:((x.2+1:Nat):Int)=(x.2:Int)+1:=by omega
         rw[hx1] at hs;refine bg hget ?_;refine aF [some 1] [] (hb) ?_;refine eo hget hs ?_;refine aR (i+1,Y.set i (x.1,x.2+1),q') [some 0,some 1,some 2,some 3] ⟨hil,hlen _,hend.2,hn,hR3 _⟩ (by dsimp only;omega)
       · rw[if_neg hxk] at hn
         rw[hself] at hn;have hR4:=hR3 x;rw[hself] at hR4;refine bg hget ?_;refine aF [some 1] [] (hb) ?_;refine bg hget ?_;refine aR (i+1,Y,q') [some 0,some 1,some 2,some 3] ⟨hil,hY,hend.2,hn,hR4⟩ (by dsimp only;omega)
   · have he:=Cb (al8 N) h0
     rw[if_neg h0] at hub;rw[he] at hb;rw[hub,Option.map_none] at hu;rw[hu] at hQ;dsimp only at hQ;refine bg hget ?_;refine zW [some 1] [] hb ?_;exact ai [some 0,some 1] hQ
 · obtain rfl:i=X.length:=by omega
   have hdr:Y.drop X.length=[]:=List.drop_eq_nil_of_le zo;have htk:Y.take X.length=Y:=aku zo;rw[hdr,htk] at hu;have hu2:fY L (N+1) key X p=some (Y,q):=by rw[hu];simp[fY]
   rw[hu2] at hQ;dsimp only at hQ;exact zE [some 0,some 1] hQ
theorem LW {R C k a b T n p key:Nat} {l:List RW} {L:List Bool} {d:Bool} (hL:L.length≤1048576) (hs:jU k a b) (hC:1≤C∧C≤64) (hn:n≤100) (hT:T≤1000) (hkey:key<2305843009213693951) (hp:p≤L.length) (hl:l.length=R) (hR:1≤R∧R≤4) (hw:∀r∈l,bB k a b C r):
 ∃(e:Int) (l':List RW) (T' q:Nat) (d':Bool),l'.length=R∧(∀r∈l',bB k a b C r)∧T'≤T+n∧q≤L.length∧
 aA Tryz.prog 19 [.ref 0 0 0 0,.ref 1 0 0 0,.lit (.int .u64 key),.I n] [some (jd R C k a b l T),some (bm L p d)] (.I e) [some (jd R C k a b l' T'),some (bm L q d')]:=by
 subst hl
 match l,hR,hw with
 | [],h,_=>exact absurd h.1 (by simp)
 | [r0],_,hw=>exact HC hL hs hC hn hT hkey hp (hw _ (by simp))
 | [r0,r1],_,hw=>exact J6 hL hs hC hn hT hkey hp (hw _ (by simp)) (hw _ (by simp))
 | [r0,r1,r2],_,hw=>exact Jr hL hs hC hn hT hkey hp (hw _ (by simp)) (hw _ (by simp)) (hw _ (by simp))
 | [r0,r1,r2,r3],_,hw=>exact JL hL hs hC hn hT hkey hp (hw _ (by simp)) (hw _ (by simp)) (hw _ (by simp)) (hw _ (by simp))
 | _::_::_::_::_::_,h,_=>exact absurd h.2 (by simp)
end Go.Proofs.YtcnlmelpnflhnaaGreat
