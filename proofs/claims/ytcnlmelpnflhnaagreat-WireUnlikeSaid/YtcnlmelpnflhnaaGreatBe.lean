import Derived.Test.YtcnlmelpnflhnaaGreatBd
import Derived.Test.YtcnlmelpnflhnaaGreatBa
namespace Go.Proofs.YtcnlmelpnflhnaaGreat
open Go.Eng Go.Vx
set_option linter.unusedSimpArgs false
set_option linter.unusedVariables false
set_option maxRecDepth 100000
abbrev CS:=Nat×Bool×Nat×Bool
def mb (L:List Bool) (w:Nat) (x:CS):Prop:=x.1≤2^w-1∧(x.2.1=true→x.1=2^w-1)∧x.2.2.1≤L.length
def j5 (K:Nat) (F:Bool):V:=.agg [.lit (.int .i64 (K:Int)),.lit (.bool F)]
attribute [go_sem] j5
theorem PK {k a w K:Nat} (hs:ot k a w) (hK:K≤2^w-1):aA Tryz.prog 124 [pR k a w,.row 1 [[.lit (.int .i64 (K:Int))]]] [] (.lit (.int .i64 0)) []:=by
 obtain ⟨hg,h4⟩:=gp hs;have c:=oW hg h4;have t:=nu hg h4;generalize 2^w-1=m at*
 refine zF pl Tryz.call124 Tryz.func124 [.tmp 4] fun Q hQ=>?_;refine ae ?_;refine zC c ?_;refine aR (X:=Nat) (st:=fun i=>([(2,.ref 0 0 0 0),(13,.row 1 [[.lit (.int .i64 (K:Int))]]),(14,.lit (.int .i64 1)),(15,.lit (.int .i64 (i:Int)))],[some (.cells [.lit (.int .i64 (k:Int)),.lit (.int .i64 (a:Int)),.lit (.int .i64 (w:Int))])])) (inv:=fun i=>i=0∨i=1) (m:=fun i=>1-i) 0 [some 0] (.inl rfl) ?_;rintro i (rfl | rfl)
 · refine ae ?_
   refine zC t ?_;refine aM 1 [some 0] (.inr rfl) zo
 · refine ae ?_
   exact ak [] hQ
theorem VC {L:List Bool} {k a w:Nat} (hL:L.length≤1048576) (hs:ot k a w) (x:CS) (hx:mb L w x):∃y:Int×CS,mb L w y.2∧
 aA Tryz.prog 126 [pR k a w,j5 x.1 x.2.1,.clo 127 [.ref 0 0 0 0,.ref 1 0 0 0]] [some (.cells [kV k a]),some (.cells [.ref 2 0 0 0]),some (bt L x.2.2.1 x.2.2.2)]
  (.tup [j5 y.2.1 y.2.2.1,.lit (.int .i64 y.1)]) [some (.cells [kV k a]),some (.cells [.ref 2 0 0 0]),some (bt L y.2.2.2.1 y.2.2.2.2)]:=by
 obtain ⟨K,F,p,d⟩:=x;obtain ⟨h1,h2,h3⟩:=hx;dsimp only at h1 h2 h3 ⊢;obtain ⟨hg,h4⟩:=gp hs;have t:=nu hg h4;have hw:2^w≤2^4:=Nat.pow_le_pow_right zd hs.2.2;have hw1:2^w-1≤15:=by omega
 unfold mb
 have hkv:(∃c,kV k a=.lit c):=by unfold kV;split; · exact⟨_,rfl⟩
                                 split<;>exact⟨_,rfl⟩
 by_cases hK:K=2^w-1
 · refine⟨(0,K,true,p,d),⟨h1,fun _=>hK,h3⟩,?_⟩
   dsimp only;generalize 2^w-1=m at*
   subst hK;obtain ⟨c,hc⟩:=hkv;rw[hc];refine zF GK Tryz.call126 Tryz.func126 [.cell 6 140,.tmp 7] fun Q hQ=>?_;refine ae ?_;refine zC t ?_;exact ak [some 0,some 1,some 2] hQ
 · have hF:F=false:=by cases F with | true=>exact absurd (h2 rfl) hK | false=>rfl
   subst hF;obtain ⟨b,e,q,d',hq,h⟩:=Lk (d:=d) (p:=p) (K:=K) hL h3 hs zo;refine⟨(e,(if b then K+1 else K),false,q,d'),⟨?_,fun h=>(by cases h),hq⟩,?_⟩
   · dsimp only;split<;>omega
   dsimp only;obtain ⟨c,hc⟩:=hkv;rw[hc] at h ⊢;generalize 2^w-1=m at*
   refine zF GK Tryz.call126 Tryz.func126 [.cell 6 140,.tmp 7] fun Q hQ=>?_;refine ae ?_;refine zC t ?_;refine aF [some 0,some 1,some 2] [] (h) ?_
   cases b with
   | true=>
     rw[if_pos rfl] at hQ;exact zE [some 0,some 1,some 2] hQ
   | false=>
     rw[if_neg (by simp)] at hQ;exact zE [some 0,some 1,some 2] hQ
def wc (G:CS→Int×CS) (m:Nat) (s:CS):Nat→CS→Int×CS
 | 0,x=>(0,x)
 | n+1,x=>if (G x).1≠0 then((G x).1,s.1,s.2.1,(G x).2.2.2) else if (G x).2.2.1=true∧(G x).2.1=m then(0,(G x).2) else wc G m s n (G x).2
theorem Fv {G:CS→Int×CS} {m:Nat} {s x:CS}:wc G m s 0 x=(0,x):=rfl
theorem Fg {G:CS→Int×CS} {m n:Nat} {s x:CS}:wc G m s (n+1) x=if (G x).1≠0 then((G x).1,s.1,s.2.1,(G x).2.2.2) else if (G x).2.2.1=true∧(G x).2.1=m then(0,(G x).2) else wc G m s n (G x).2:=rfl
theorem Cc {L:List Bool} {G:CS→Int×CS} {w:Nat} {s:CS} (hG:∀x,mb L w x→mb L w (G x).2) (hs:mb L w s):∀n x,mb L w x→mb L w (wc G (2^w-1) s n x).2
 | 0,x,h=>h
 | n+1,x,h=>by
   unfold wc
   split
   · exact⟨hs.1,hs.2.1,(hG x h).2.2⟩
   · split
     · exact hG x h
     · exact Cc hG hs n _ (hG x h)
theorem MO {L:List Bool} {k a w n:Nat} (hL:L.length≤1048576) (hs:ot k a w) (hn:n≤100) (x:CS) (hx:mb L w x):∃y:Int×CS,mb L w y.2∧
 aA Tryz.prog 67 [pR k a w,.ref 0 0 0 0,j5 x.1 x.2.1,.lit (.int .i64 (n:Int))] [some (bt L x.2.2.1 x.2.2.2)]
  (.tup [j5 y.2.1 y.2.2.1,.lit (.int .i64 y.1)]) [some (bt L y.2.2.2.1 y.2.2.2.2)]:=by
 obtain ⟨G,hG⟩:=Classical.skolem.1 fun x=>show∃y:Int×CS,mb L w x→mb L w y.2∧aA Tryz.prog 126 [pR k a w,j5 x.1 x.2.1,.clo 127 [.ref 0 0 0 0,.ref 1 0 0 0]] [some (.cells [kV k a]),some (.cells [.ref 2 0 0 0]),some (bt L x.2.2.1 x.2.2.2)]
  (.tup [j5 y.2.1 y.2.2.1,.lit (.int .i64 y.1)]) [some (.cells [kV k a]),some (.cells [.ref 2 0 0 0]),some (bt L y.2.2.2.1 y.2.2.2.2)] from by
  by_cases h:mb L w x
  · obtain ⟨y,hy⟩:=VC hL hs x h
    exact⟨y,fun _=>hy⟩
  · exact⟨(0,x),fun h'=>absurd h' h⟩
 have hGo:∀x,mb L w x→mb L w (G x).2:=fun x h=>(hG x h).1;refine⟨wc G (2^w-1) x n x,Cc hGo hx n x hx,?_⟩;obtain ⟨K,F,p,d⟩:=x;have at1:=PK hs hx.1;obtain ⟨hg,h4⟩:=gp hs;have tp:=nu hg h4
 have kd:aA Tryz.prog 125 [pR k a w] [] (kV k a) []:=by
  unfold pR kV;rcases hs.1 with⟨rfl,_⟩ | ⟨rfl,_⟩ | ⟨rfl,_⟩
  · exact xS
  · exact wX
  · exact wU
 obtain ⟨c,hc⟩:(∃c,kV k a=.lit c):=by unfold kV;split; · exact⟨_,rfl⟩
                                      split<;>exact⟨_,rfl⟩
 have hmx:max 0 (n:Int)=(n:Int):=by omega
 have hw:2^w≤2^4:=ajv zd hs.2.2;rw[hc] at kd hG;generalize 2^w-1=m at*
 refine zF Yv Tryz.call67 Tryz.func67 [.cell 8 140,.tmp 9] fun Q hQ=>?_;refine ae ?_;refine zW [] [5] at1 ?_;refine aB (kd) rfl rfl ?_;refine br hmx ?_
 refine aR (X:=Nat×CS) (st:=fun z=>([(4,.ref 1 0 0 0),(5,.ref 2 0 0 0),(6,.ref 3 0 0 0),(8,.ref 4 0 0 0),(11,.ref 5 0 0 0),(12,.ref 6 0 0 0),(30,.lit (.int .i64 (n:Int))),(31,.lit (.int .i64 (z.1:Int)))],
  [some (bt L z.2.2.2.1 z.2.2.2.2),some (.cells [.lit (.int .i64 (k:Int)),.lit (.int .i64 (a:Int)),.lit (.int .i64 (w:Int))]),some (.cells [.ref 0 0 0 0]),some (.cells [.lit (.int .i64 (K:Int)),.lit (.bool F)]),some (.cells [.lit (.int .i64 0),.lit (.bool false)]),some (.cells [.lit c]),some (.cells [.lit (.int .i64 (z.2.1:Int)),.lit (.bool z.2.2.1)])]))
  (inv:=fun z=>z.1≤n∧mb L w z.2∧wc G m (K,F,p,d) n (K,F,p,d)=wc G m (K,F,p,d) (n-z.1) z.2) (m:=fun z=>n-z.1) (0,K,F,p,d) [some 0,some 1,some 2,some 3,some 4,some 6,some 7] ⟨by simp,hx,rfl⟩ ?_
 rintro ⟨i,K1,F1,p1,d1⟩ ⟨hi,hz,hv⟩;dsimp only at hi hz hv ⊢
 by_cases hin:i<n
 · obtain ⟨r,hr⟩:∃r,n-i=r+1:=⟨n-i-1,by omega⟩
   have g:=hG (K1,F1,p1,d1) hz;rw[hr,Fg] at hv;generalize G (K1,F1,p1,d1)=gx at g hv;obtain ⟨E,K2,F2,p2,d2⟩:=gx;obtain ⟨g1,g2⟩:=g;dsimp only at g1 g2 hv
   by_cases hE:E=0
   · subst hE
     rw[if_neg (by simp)] at hv;refine ae ?_;refine aF [some 5,some 2,some 0] [] (g2) ?_
     cases F2 with
     | true=>
       by_cases hk:K2=m
       · rw[if_pos ⟨rfl,hk⟩] at hv
         rw[hv] at hQ;subst hk;refine ae ?_;refine zC tp ?_;exact ak [some 0] hQ
       · rw[if_neg (fun h=>hk h.2)] at hv
         refine ae ?_;refine zC tp ?_;refine aM (i+1,K2,true,p2,d2) [some 0,some 1,some 2,some 3,some 4,some 5,some 6] ⟨by omega,g1,?_⟩ zo;rw[hv,show n-(i+1)=r by omega]
     | false=>
       rw[if_neg (fun h=>(by cases h.1))] at hv;refine ae ?_;refine aM (i+1,K2,false,p2,d2) [some 0,some 1,some 2,some 3,some 4,some 5,some 6] ⟨by omega,g1,?_⟩ zo;rw[hv,show n-(i+1)=r by omega]
   · rw[if_pos hE] at hv
     rw[hv] at hQ;refine ae ?_;refine zW [some 5,some 2,some 0] [] g2 ?_;exact ak [some 0] hQ
 · obtain rfl:i=n:=by omega
   rw[akz,Fv] at hv;rw[hv] at hQ;exact zE [some 0] hQ
def Lt {α:Type} (L:List Bool) (d:Bool) (o:Option (α×Nat)) (x:α×Int×Nat×Bool):Prop:=match o with | some (a,q)=>x=(a,0,q,d) | none=>x.2=(8,L.length,true)
theorem ja {L:List Bool} {d:Bool} {n k p a q:Nat} (h:(fc n k).run L p=some (a,q)):gD L d n k p=(a,0,q,d):=by unfold gD;rw[h];rfl
theorem jh {L:List Bool} {d:Bool} {n k p:Nat} (h:(fc n k).run L p=none):gD L d n k p=(0,8,L.length,true):=by unfold gD;rw[h];rfl
theorem Pn {P:SP} {w:Nat} {i:Int} {L:List Bool} {cs Y:List Cell} {own0 own own' z:Cell} {k p q q':Nat} (hk:k<Y.length)
 (h:(jc P w i cs 0 own0).run L p=((jc P w i (Y.drop k) k own).run L q).map (fun r=>((Y.take k++r.1.1,r.1.2),r.2)))
 (e:(jc P w i (Y.drop k) k own).run L q=((jc P w i (Y.drop (k+1)) (k+1) own').run L q').map (fun r=>((z::r.1.1,r.1.2),r.2))):
 (jc P w i cs 0 own0).run L p=((jc P w i ((Y.set k z).drop (k+1)) (k+1) own').run L q').map (fun r=>(((Y.set k z).take (k+1)++r.1.1,r.1.2),r.2)):=by
 have e1:(Y.set k z).drop (k+1)=Y.drop (k+1):=by rw[alw zo]
 have e2:(Y.set k z).take (k+1)=Y.take k++[z]:=by
  rw[ajN (by simpa using hk),alu (ajp k)]
  simp
 rw[h,e,e1,e2,Option.map_map]
 congr 1
 funext r
 simp
set_option maxHeartbeats 4000000 in
theorem yK {M D S s p:Nat} {cs:List Cell} {f d:Bool} {L:List Bool} {i:Int} {own:Cell} (hw:WB M D S) (hL:L.length≤1048576) (hp:p≤L.length) (hd:d=true→p=L.length) (hs:s≤4) (hn:cs.length≤256)
 (hc:∀c∈cs,ze (cR M D S) c) (ho:own.1≤16777216∧own.2≤3):
 FnR Tryz.prog 139 [.ref 0 0 0 0,.ref 1 0 0 0,.lit (.int .i64 i),cA own] (W3 M D S cs.length cs s f L p d)
 (Lt L d ((jc (cR M D S) s i cs 0 own).run L p)) (fun x=>.tup [cA x.1.2,.lit (.int .i64 x.2.1)]) (fun x=>W3 M D S cs.length x.1.1 (s+1) f L x.2.2.1 x.2.2.2):=by
 have ht:=sK (M:=M) (D:=D) (S:=S) (by have:=hw.m8;omega) (by have:=hw.d2;omega);have hpw:=hw.pw;have hd3:=hpw.d3;have hm255:=hpw.m255;rw[show 2^M-1=(cR M D S).m from rfl,show 2^D-1=(cR M D S).d from rfl] at ht;have hsc:=fun(v p':Nat) (Y:List Cell) (h1:p'≤L.length) (h2:d=true→p'=L.length) (h3:v≤1099511627776)=>Bn (M:=M) (D:=D) (S:=S) (n:=cs.length) (s:=s+1) (sc:=s+1) (v:=v) (p:=p') (cs:=Y) (f:=f) (d:=d) (L:=L) hw hL h1 h2 h3 zo;generalize hP:cR M D S=P at*
 refine CN NM zk Tryz.call139 Tryz.func139 rfl zk rfl [.cell 8 151,.tmp 9] zk fun Q hQ=>?_;refine ae ?_;refine zC ht ?_
 refine aR (X:=Nat×List Cell×Cell×Nat) (st:=fun y=>([(0,.ref 0 0 0 0),(1,.ref 1 0 0 0),(2,.lit (.int .i64 i)),(7,.ref 3 0 0 0),(8,.ref 4 0 0 0),(10,.lit (.int .i64 (P.m:Int))),(12,.lit (.int .i64 (s:Int))),(39,.lit (.int .i64 (cs.length:Int))),(40,.lit (.int .i64 (y.1:Int)))],
  W3 M D S cs.length y.2.1 (s+1) f L y.2.2.2 d++[some (.cells [.lit (.int .i64 (y.2.2.1.1:Int)),.lit (.int .i64 (y.2.2.1.2:Int))]),some (.cells [.lit (.int .i64 0),.lit (.int .i64 0)])]))
  (inv:=fun y=>y.1≤cs.length∧y.2.1.length=cs.length∧y.2.2.2≤L.length∧(d=true→y.2.2.2=L.length)∧(∀c∈y.2.1.drop y.1,ze P c)∧(y.2.2.1.1≤16777216∧y.2.2.1.2≤3∨i<y.1)∧
   (jc P s i cs 0 own).run L p=((jc P s i (y.2.1.drop y.1) y.1 y.2.2.1).run L y.2.2.2).map (fun r=>((y.2.1.take y.1++r.1.1,r.1.2),r.2)))
  (m:=fun y=>cs.length-y.1) (0,cs,own,p) [some 0,some 1,some 2,some 3,some 4] ⟨ajH _,rfl,hp,hd,hc,.inl ho,by simp⟩ ?_
 rintro ⟨k,Y,o,q⟩ ⟨hk,hY,hq,hdq,hcY,hoq,hrun⟩;dsimp only at hk hY hq hdq hcY hoq hrun ⊢;have hs1:((s:Int)+1)=((s+1:Nat):Int):=by omega
 by_cases hkl:k<cs.length
 · have hkY:k<Y.length:=by omega
   have hdr:Y.drop k=Y[k]::Y.drop (k+1):=akm hkY;have hget:Y.getD k default=Y[k]:=by rw[ajk,ajm hkY];rfl
   have hself:Y.set k Y[k]=Y:=List.set_getElem_self _;have hck:=hcY Y[k] (by rw[hdr];exact alm);have hcY2:∀c∈Y.drop (k+1),ze P c:=fun c hc=>hcY c (by rw[hdr];exact akJ _ hc)
   have hcY3:∀z,∀c∈(Y.set k z).drop (k+1),ze P c:=by
    intro z c hc;rw[alw zo] at hc;exact hcY2 c hc
   have hmap:= @Pn P s i L cs Y own o
   by_cases hki:(k:Int)=i
   · have hob:o.1≤16777216∧o.2≤3:=by rcases hoq with h | h;exact h;omega
     have hv:=Hu (c:=o) (s:=s) hob.1 hob.2 hs;have hsm:=Ha (s:=s) (m:=o.2) hs hob.2;have hwo:=tT (c:=o) (s:=s) zo zo;have hsd:=hsc (iG o s) q Y hq hdq zo;have hrs:=Mi (P:=P) (L:=L) (w:=s) (p:=q) (c:=Y[k]) (own:=o) (cs:=Y.drop (k+1)) hki;have hml:=vH (P:=P) (v:=iG o s) (s:=s+1);rw[←hdr,C3] at hrs;generalize bz P (iG o s) (s+1) P.d 0=mm at*
     cases h1:(fc (iG o s) ((s+1)*mm)).run L q with
     | none=>
       rw[h1] at hrs;dsimp only[Option.map_none] at hrs;rw[hrs,Option.map_none] at hrun;rw[jh h1] at hsd;rw[hrun] at hQ;generalize iG o s=v at*
       refine br hget ?_;refine zC hwo ?_;refine aF [some 0,some 1,some 2] [] (hsd) ?_;refine br hs1 ?_;exact ak [some 0,some 1,some 2] (hQ ((Y,(0,mm)),8,L.length,true) rfl)
     | some r=>
       obtain ⟨n,q'⟩:=r;rw[h1] at hrs;dsimp only[Option.map_some] at hrs;have hnx:=hH hq hdq h1;have hnl:=uW h1;rw[ja h1] at hsd;have hm2:=hmap hkY hrun hrs;rw[hself] at hm2;generalize iG o s=v at*
       refine br hget ?_;refine zC hwo ?_;refine aF [some 0,some 1,some 2] [] (hsd) ?_;refine br hs1 ?_;refine aM (k+1,Y,(n,mm),q') [some 0,some 1,some 2,some 3,some 4] ⟨hkl,hY,hnx.1,hnx.2,hcY2,.inr (by dsimp only;omega),hm2⟩ (by dsimp only;omega)
   · obtain ⟨hc1,hc2,-⟩:=hck
     have hv:=Hu (c:=Y[k]) (s:=s) (A:=255) zo zo hs;have hsm:=Ha (s:=s) (m:=Y[k].2) hs zo;have hwo:=tT (c:=Y[k]) (s:=s) zo zo;have hsd:=hsc (iG Y[k] s) q Y hq hdq zo;have hrs:=Fq (P:=P) (L:=L) (w:=s) (p:=q) (c:=Y[k]) (own:=o) (cs:=Y.drop (k+1)) hki;have hml:=vH (P:=P) (v:=iG Y[k] s) (s:=s+1);have hvl:iG Y[k] s≤1044480:=by omega
     rw[←hdr,Ni,C3] at hrs;have hput:=fun(z:Cell)=>Dc (M:=M) (D:=D) (S:=S) (cs:=Y) (s:=s+1) (i:=k) (f:=f) (c:=z) hkY zo;rw[hY] at hput;have hoq2:o.1≤16777216∧o.2≤3∨i<((k+1:Nat):Int):=by rcases hoq with h | h;exact .inl h;exact .inr zo
     have hlen:∀z,(Y.set k z).length=cs.length:=fun z=>by rw[ajR];exact hY
     generalize bz P (iG Y[k] s) (s+1) P.d 0=mm at*
     generalize Y[k]=y at*
     cases h1:(fc (iG y s) ((s+1)*mm)).run L q with
     | none=>
       rw[h1] at hrs;dsimp only[Option.map_none] at hrs;rw[hrs,Option.map_none] at hrun;rw[jh h1] at hsd;rw[hrun] at hQ;generalize iG y s=v at*
       refine br hget ?_;refine zC hwo ?_;refine aF [some 0,some 1,some 2] [] (hsd) ?_;refine br hs1 ?_;exact ak [some 0,some 1,some 2] (hQ ((Y,o),8,L.length,true) rfl)
     | some r=>
       obtain ⟨n,q'⟩:=r;rw[h1] at hrs;dsimp only[Option.map_some] at hrs;have hnx:=hH hq hdq h1;have hnl:=uW h1;rw[ja h1] at hsd;generalize iG y s=v at*
       by_cases hb:P.m<n
       · rw[if_pos hb,Ct] at hrs
         have hup:=It (M:=M) (D:=D) (S:=S) (n:=cs.length) (cs:=Y) (s:=s+1) (p:=q') (f:=f) (d:=d) (L:=L) (c:=(n,mm)) hL hnx.1 hnx.2 (by dsimp only;omega) (by dsimp only;omega) zo;dsimp only at hup hrs
         cases h2:(fc n (s+1)).run L q' with
         | none=>
           rw[h2] at hrs;dsimp only[Option.map_none] at hrs;rw[hrs,Option.map_none] at hrun;rw[jh h2] at hup;rw[hrun] at hQ;refine br hget ?_;refine zC hwo ?_;refine aF [some 0,some 1,some 2] [] (hsd) ?_;refine br hs1 ?_;refine zW [some 0,some 1,some 2] [] hup ?_;exact ak [some 0,some 1,some 2] (hQ ((Y,o),8,L.length,true) rfl)
         | some r2=>
           obtain ⟨n2,q2⟩:=r2;rw[h2] at hrs;dsimp only[Option.map_some] at hrs;have hnx2:=hH hnx.1 hnx.2 h2;rw[ja h2] at hup;have hp2:=hput (n2,mm+1);have hm2:=hmap hkY hrun hrs;refine br hget ?_;refine zC hwo ?_;refine aF [some 0,some 1,some 2] [] (hsd) ?_;refine br hs1 ?_;refine zW [some 0,some 1,some 2] [] hup ?_;refine zW [some 0,some 2] [] hp2 ?_;refine aM (k+1,Y.set k (gH (n2,mm+1)),o,q2) [some 0,some 1,some 2,some 3,some 4] ⟨hkl,hlen _,hnx2.1,hnx2.2,hcY3 _,hoq2,hm2⟩ (by dsimp only;omega)
       · rw[if_neg hb] at hrs
         dsimp only at hrs;have hp2:=hput (n,mm);have hm2:=hmap hkY hrun hrs;refine br hget ?_;refine zC hwo ?_;refine aF [some 0,some 1,some 2] [] (hsd) ?_;refine br hs1 ?_;refine zW [some 0,some 2] [] hp2 ?_;refine aM (k+1,Y.set k (gH (n,mm)),o,q') [some 0,some 1,some 2,some 3,some 4] ⟨hkl,hlen _,hnx.1,hnx.2,hcY3 _,hoq2,hm2⟩ (by dsimp only;omega)
 · obtain rfl:k=cs.length:=by omega
   have hdr:Y.drop cs.length=[]:=List.drop_eq_nil_of_le zo;have htk:Y.take cs.length=Y:=ajy zo;rw[hdr,htk] at hrun
   have hrun2:(jc P s i cs 0 own).run L p=some ((Y,o),q):=by
    rw[hrun];show some ((Y++[],o),q)=_;rw[ake]
   rw[hrun2] at hQ;refine ae ?_;exact ak [some 0,some 1,some 2] (hQ ((Y,o),0,q,d) rfl)
end Go.Proofs.YtcnlmelpnflhnaaGreat
