import Derived.Test.YtcnlmelpnflhnaaGreatBc
import Derived.Test.YtcnlmelpnflhnaaGreatHd
import Derived.Test.YtcnlmelpnflhnaaGreatFw
import Derived.Test.YtcnlmelpnflhnaaGreatHa
namespace Go.Proofs.YtcnlmelpnflhnaaGreat
open Go.Eng Go.Vx
set_option linter.unusedSimpArgs false
set_option linter.unusedVariables false
set_option maxRecDepth 100000
abbrev CS:=Nat×Bool×Nat×Bool
def me (L:List Bool) (w:Nat) (x:CS):Prop:=x.1≤2^w-1∧(x.2.1=true→x.1=2^w-1)∧x.2.2.1≤L.length
def kx (K:Nat) (F:Bool):V:=.agg [.I K,.lit (.bool F)]
attribute [go_sem] kx
theorem Q6 {k a w K:Nat} (hs:oK k a w) (hK:K≤2^w-1):aA Tryz.prog 124 [pR k a w,.row 1 [[.I K]]] [] (.I 0) []:=by
 obtain ⟨hg,h4⟩:=gH hs;have c:=pj hg h4;have t:=nK hg h4;generalize 2^w-1=m at*
 refine zF pl Tryz.call124 Tryz.func124 [.tmp 4] fun Q hQ=>?_;refine ae ?_;refine zC c ?_;refine aU (X:=Nat) (st:=fun i=>([(2,.ref 0 0 0 0),(13,.row 1 [[.I K]]),(14,.I 1),(15,.I i)],[some (.cells [.I k,.I a,.I w])])) (inv:=fun i=>i=0∨i=1) (m:=fun i=>1-i) 0 [some 0] (.inl rfl) ?_;rintro i (rfl | rfl)
 · refine ae ?_
   refine zC t ?_;refine aR 1 [some 0] (.inr rfl) zo
 · refine ae ?_
   exact ai [] hQ
theorem WS {L:List Bool} {k a w:Nat} (hL:L.length≤1048576) (hs:oK k a w) (x:CS) (hx:me L w x):∃y:Int×CS,me L w y.2∧
 aA Tryz.prog 126 [pR k a w,kx x.1 x.2.1,.clo 127 [.ref 0 0 0 0,.ref 1 0 0 0]] [some (.cells [kV k a]),some (.cells [.ref 2 0 0 0]),some (bm L x.2.2.1 x.2.2.2)]
  (.tup [kx y.2.1 y.2.2.1,.I y.1]) [some (.cells [kV k a]),some (.cells [.ref 2 0 0 0]),some (bm L y.2.2.2.1 y.2.2.2.2)]:=by
 obtain ⟨K,F,p,d⟩:=x;obtain ⟨h1,h2,h3⟩:=hx;dsimp only at h1 h2 h3 ⊢;obtain ⟨hg,h4⟩:=gH hs;have t:=nK hg h4;have hw:2^w≤2^4:=Nat.pow_le_pow_right zd hs.2.2;have hw1:2^w-1≤15:=by omega
 unfold me
 have hkv:(∃c,kV k a=.lit c):=by unfold kV;split; · exact⟨_,rfl⟩
                                 split<;>exact⟨_,rfl⟩
 by_cases hK:K=2^w-1
 · refine⟨(0,K,true,p,d),⟨h1,fun _=>hK,h3⟩,?_⟩
   dsimp only;generalize 2^w-1=m at*
   subst hK;obtain ⟨c,hc⟩:=hkv;rw[hc];refine zF HA Tryz.call126 Tryz.func126 [.cell 6 140,.tmp 7] fun Q hQ=>?_;refine ae ?_;refine zC t ?_;exact ai [some 0,some 1,some 2] hQ
 · have hF:F=false:=by cases F with | true=>exact absurd (h2 rfl) hK | false=>rfl
   subst hF;obtain ⟨b,e,q,d',hq,h⟩:=ME (d:=d) (p:=p) (K:=K) hL h3 hs zo;refine⟨(e,(if b then K+1 else K),false,q,d'),⟨?_,fun h=>(by cases h),hq⟩,?_⟩
   · dsimp only;split<;>omega
   dsimp only;obtain ⟨c,hc⟩:=hkv;rw[hc] at h ⊢;generalize 2^w-1=m at*
   refine zF HA Tryz.call126 Tryz.func126 [.cell 6 140,.tmp 7] fun Q hQ=>?_;refine ae ?_;refine zC t ?_;refine aF [some 0,some 1,some 2] [] (h) ?_
   cases b with
   | true=>
     rw[if_pos rfl] at hQ;exact zE [some 0,some 1,some 2] hQ
   | false=>
     rw[if_neg (by simp)] at hQ;exact zE [some 0,some 1,some 2] hQ
def wN (G:CS→Int×CS) (m:Nat) (s:CS):Nat→CS→Int×CS
 | 0,x=>(0,x)
 | n+1,x=>if (G x).1≠0 then((G x).1,s.1,s.2.1,(G x).2.2.2) else if (G x).2.2.1=true∧(G x).2.1=m then(0,(G x).2) else wN G m s n (G x).2
theorem Gk {G:CS→Int×CS} {m:Nat} {s x:CS}:wN G m s 0 x=(0,x):=rfl
theorem F4 {G:CS→Int×CS} {m n:Nat} {s x:CS}:wN G m s (n+1) x=if (G x).1≠0 then((G x).1,s.1,s.2.1,(G x).2.2.2) else if (G x).2.2.1=true∧(G x).2.1=m then(0,(G x).2) else wN G m s n (G x).2:=rfl
theorem CN {L:List Bool} {G:CS→Int×CS} {w:Nat} {s:CS} (hG:∀x,me L w x→me L w (G x).2) (hs:me L w s):∀n x,me L w x→me L w (wN G (2^w-1) s n x).2
 | 0,x,h=>h
 | n+1,x,h=>by
   unfold wN
   split
   · exact⟨hs.1,hs.2.1,(hG x h).2.2⟩
   · split
     · exact hG x h
     · exact CN hG hs n _ (hG x h)
theorem Oi {L:List Bool} {k a w n:Nat} (hL:L.length≤1048576) (hs:oK k a w) (hn:n≤100) (x:CS) (hx:me L w x):∃y:Int×CS,me L w y.2∧
 aA Tryz.prog 67 [pR k a w,.ref 0 0 0 0,kx x.1 x.2.1,.I n] [some (bm L x.2.2.1 x.2.2.2)]
  (.tup [kx y.2.1 y.2.2.1,.I y.1]) [some (bm L y.2.2.2.1 y.2.2.2.2)]:=by
 obtain ⟨G,hG⟩:=Classical.skolem.1 fun x=>show∃y:Int×CS,me L w x→me L w y.2∧aA Tryz.prog 126 [pR k a w,kx x.1 x.2.1,.clo 127 [.ref 0 0 0 0,.ref 1 0 0 0]] [some (.cells [kV k a]),some (.cells [.ref 2 0 0 0]),some (bm L x.2.2.1 x.2.2.2)]
  (.tup [kx y.2.1 y.2.2.1,.I y.1]) [some (.cells [kV k a]),some (.cells [.ref 2 0 0 0]),some (bm L y.2.2.2.1 y.2.2.2.2)] from by
  by_cases h:me L w x
  · obtain ⟨y,hy⟩:=WS hL hs x h
    exact⟨y,fun _=>hy⟩
  · exact⟨(0,x),fun h'=>absurd h' h⟩
 have hGo:∀x,me L w x→me L w (G x).2:=fun x h=>(hG x h).1;refine⟨wN G (2^w-1) x n x,CN hGo hx n x hx,?_⟩;obtain ⟨K,F,p,d⟩:=x;have at1:=Q6 hs hx.1;obtain ⟨hg,h4⟩:=gH hs;have tp:=nK hg h4
 have kd:aA Tryz.prog 125 [pR k a w] [] (kV k a) []:=by
  unfold pR kV;rcases hs.1 with⟨rfl,_⟩ | ⟨rfl,_⟩ | ⟨rfl,_⟩
  · exact sj
  · exact qX
  · exact qW
 obtain ⟨c,hc⟩:(∃c,kV k a=.lit c):=by unfold kV;split; · exact⟨_,rfl⟩
                                      split<;>exact⟨_,rfl⟩
 have hmx:max 0 (n:Int)=(n:Int):=by omega
 have hw:2^w≤2^4:=ako zd hs.2.2;rw[hc] at kd hG;generalize 2^w-1=m at*
 refine zF ZJ Tryz.call67 Tryz.func67 [.cell 8 140,.tmp 9] fun Q hQ=>?_;refine ae ?_;refine zW [] [5] at1 ?_;refine aC (kd) rfl rfl ?_;refine bg hmx ?_
 refine aU (X:=Nat×CS) (st:=fun z=>([(4,.ref 1 0 0 0),(5,.ref 2 0 0 0),(6,.ref 3 0 0 0),(8,.ref 4 0 0 0),(11,.ref 5 0 0 0),(12,.ref 6 0 0 0),(30,.I n),(31,.I z.1)],
  [some (bm L z.2.2.2.1 z.2.2.2.2),some (.cells [.I k,.I a,.I w]),some (.cells [.ref 0 0 0 0]),some (.cells [.I K,.lit (.bool F)]),some (.cells [.I 0,.lit (.bool false)]),some (.cells [.lit c]),some (.cells [.I z.2.1,.lit (.bool z.2.2.1)])]))
  (inv:=fun z=>z.1≤n∧me L w z.2∧wN G m (K,F,p,d) n (K,F,p,d)=wN G m (K,F,p,d) (n-z.1) z.2) (m:=fun z=>n-z.1) (0,K,F,p,d) [some 0,some 1,some 2,some 3,some 4,some 6,some 7] ⟨by simp,hx,rfl⟩ ?_
 rintro ⟨i,K1,F1,p1,d1⟩ ⟨hi,hz,hv⟩;dsimp only at hi hz hv ⊢
 by_cases hin:i<n
 · obtain ⟨r,hr⟩:∃r,n-i=r+1:=⟨n-i-1,by omega⟩
   have g:=hG (K1,F1,p1,d1) hz;rw[hr,F4] at hv;generalize G (K1,F1,p1,d1)=gx at g hv;obtain ⟨E,K2,F2,p2,d2⟩:=gx;obtain ⟨g1,g2⟩:=g;dsimp only at g1 g2 hv
   by_cases hE:E=0
   · subst hE
     rw[if_neg (by simp)] at hv;refine ae ?_;refine aF [some 5,some 2,some 0] [] (g2) ?_
     cases F2 with
     | true=>
       by_cases hk:K2=m
       · rw[if_pos ⟨rfl,hk⟩] at hv
         rw[hv] at hQ;subst hk;refine ae ?_;refine zC tp ?_;exact ai [some 0] hQ
       · rw[if_neg (fun h=>hk h.2)] at hv
         refine ae ?_;refine zC tp ?_;refine aR (i+1,K2,true,p2,d2) [some 0,some 1,some 2,some 3,some 4,some 5,some 6] ⟨by omega,g1,?_⟩ zo;rw[hv,show n-(i+1)=r by omega]
     | false=>
       rw[if_neg (fun h=>(by cases h.1))] at hv;refine ae ?_;refine aR (i+1,K2,false,p2,d2) [some 0,some 1,some 2,some 3,some 4,some 5,some 6] ⟨by omega,g1,?_⟩ zo;rw[hv,show n-(i+1)=r by omega]
   · rw[if_pos hE] at hv
     rw[hv] at hQ;refine ae ?_;refine zW [some 5,some 2,some 0] [] g2 ?_;exact ai [some 0] hQ
 · obtain rfl:i=n:=by omega
   rw[alw,Gk] at hv;rw[hv] at hQ;exact zE [some 0] hQ
def j9 (L:List Bool):List Nat:=(List.range ((L.length+7)/8)).map (dJ L)
theorem sQ (L:List Bool):pk L=nl (j9 L):=by
 unfold pk kK j9 nl;rw[List.map_map]
 rfl
theorem lx (L:List Bool):∀x∈j9 L,x<256:=fun x hx=>by
 obtain ⟨j,_,rfl⟩:=alb.1 hx;exact iz L j
theorem gU (L:List Bool):(j9 L).length=(L.length+7)/8:=by simp[j9]
def bT (t:Nat):List Bool:=numBits 1 4++numBits t 3
def cu (N:List Nat):List Bool:=N.flatMap fun n=>ay (n+1)
theorem Dp (N M:List Nat):cu (N++M)=cu N++cu M:=by simp[cu]
theorem jn {N:List Nat} {i:Nat} (h:i<N.length):cu (N.take (i+1))=cu (N.take i)++ay (N.getD i 0+1):=by
 rw[gE h,Dp];simp[cu]
theorem cQ:∀{N:List Nat},(∀n∈N,n≤1048576)→(cu N).length≤N.length*41
 | [],_=>akk _
 | n::N,h=>by
   have ih:=cQ (N:=N) fun m hm=>h m (by simp[hm]);have hg:=m6 (n:=n+1) zo;have hb:=bI (n:=n+1) (k:=21) (by have:=h n (by simp);omega)
   show(ay (n+1)++cu N).length≤_
   rw[ake,akm];omega
def zH (k a b:Nat) (s:Nat×Nat×Bool):V:=.agg [.I 1,.I k,.I a,.I b,.I s.1,.I s.2.1,.lit (.bool s.2.2),.lit (.pointer none),.lit (.pointer none),.lit (.pointer none),.lit (.pointer none)]
def itA (v:Nat):V:=.agg [.I 2,.I 0,.I 0,.I 0,.I 0,.I 0,.lit (.bool false),.ref v 0 0 0,.lit (.pointer none),.lit (.pointer none),.lit (.pointer none)]
attribute [go_sem] zH itA
@[go_sem] theorem aiA {z:Nat} {a b c:Value}:NG (.row z [[.lit a],[.lit b],[.lit c]])=True:=eq_true fun e he p hp=>by
 rcases aky.1 he with rfl | he
 · rw[ak1.1 hp];rfl
 rcases aky.1 he with rfl | he
 · rw[ak1.1 hp];rfl
 rw[ak1.1 he] at hp;rw[ak1.1 hp];rfl
theorem qI {k a b:Nat}:aA Tryz.prog 90 [pR k a b] [] (.sl 0 1 0 3) [some (.row 1 ((nl [k,a,b]).map (ie .i64)))]:=by
 refine zF pl Tryz.call90 Tryz.func90 [.tmp 2] fun Q hQ=>?_;simp only[nl,akK,akV,ie] at hQ;exact zE [some 1] hQ
theorem wO {k a b:Nat} {s:Nat×Nat×Bool} (h:aX k a b) (w:aZ k a b s):aA Tryz.prog 35 [zH k a b s] [] (.lit (.bool true)) []:=by
 have rw':=rE h w;refine zF pl Tryz.call35 Tryz.func35 [.tmp 2] fun Q hQ=>?_;refine ae ?_;refine zC rw' ?_;exact ai [] hQ
theorem jy {k a b:Nat} {s:Nat×Nat×Bool} (h:aX k a b) (w:aZ k a b s):aA Tryz.prog 9 [zH k a b s] [] (.I 0) []:=by
 have g:=wO h w;refine zF pl Tryz.call9 Tryz.func9 [.tmp 2] fun Q hQ=>?_;refine ae ?_;refine zC g ?_;exact ai [] hQ
theorem xd {k a b:Nat} {s:Nat×Nat×Bool}:aA Tryz.prog 37 [zH k a b s] [] (.row 1 ((nl [k,a,b]).map (ie .i64))) []:=by
 have o:=qI (k:=k) (a:=a) (b:=b);simp only[nl,akK,akV,ie] at o;refine zF xC Tryz.call37 Tryz.func37 [.tmp 2] fun Q hQ=>?_;simp only[nl,akK,akV,ie] at hQ;refine ae ?_;refine dk (o) ?_;exact zE [] hQ
theorem eW (t:Nat):(bT t).length=7:=by
 unfold bT;rw[ake,aj,aj]
theorem jM {N:List Nat} {m:Nat} (h:∀x∈N,x≤m) (i:Nat):N.getD i 0≤m:=by
 rcases alY i N.length with hi | hi
 · rw[akf,akh hi];exact h _ (aly hi)
 · rw[akf,alU hi];exact akF _
set_option maxHeartbeats 2000000 in
theorem N4 {k a b:Nat} {s:Nat×Nat×Bool} (h:aX k a b) (w:aZ k a b s):aA Tryz.prog 10 [zH k a b s] []
 (.tup [.row 1 ((nl (aT (j9 (bT 1++cu [k,a,b]++dr k a b s)))).map (ie .u8)),.I 0]) []:=by
 have ck:=jy h w;have ns:=xd (k:=k) (a:=a) (b:=b) (s:=s);have hN3:([k,a,b]:List Nat).length=3:=rfl
 have hNm:∀x∈([k,a,b]:List Nat),x≤1048576:=by
  intro x hx;simp only[aky,ak6,or_false] at hx;rcases h with h | h | h | h<;>omega
 have hrl:=ey k a b s;have hwl:=Bh h;have n1:=cC (L:=[]) (n:=1) (m:=4) zd zd zd zd zd;have n2:=cC (L:=numBits 1 4) (n:=1) (m:=3) zd (by rw[aj];decide) zd zd zd;rw[aln] at n1;have rw1:=fun(L:List Bool) (hL:L.length<1099511600000)=>po (L:=L) h w hL;generalize [k,a,b]=N at*
 have hnl:=av N;have hgl:=cQ hNm;have hhl:=eW 1
 have hbl:(bT 1++cu N++dr k a b s).length≤200:=by
  rw[ake,ake];omega
 have e0:numBits 1 4++numBits 1 3=bT 1++cu (N.take 0):=by
  rw[alf];show _=(numBits 1 4++numBits 1 3)++[];rw[ak7]
 change aA _ _ _ _ _ [some (jY 2 (numBits 1 4++numBits 1 3)),none,some (jN (numBits 1 4++numBits 1 3))] at n2;rw[e0] at n2;refine zF pl Tryz.call10 Tryz.func10 [.tmp 2,.tmp 3] fun Q hQ=>?_;refine ae ?_;refine zC ck ?_;refine zW [some 1,none] [] n1 ?_;refine zW [some 1,some 3] [] n2 ?_;refine zC ns ?_
 refine aU (X:=Nat) (st:=fun i=>([(1,.ref 0 0 0 0),(5,.ref 1 0 0 0),(23,.row 1 ((nl N).map (ie .i64))),(24,.I 3),(25,.I i)],
  [some (.cells [.I 1,.I k,.I a,.I b,.I s.1,.I s.2.1,.lit (.bool s.2.2),.lit (.pointer none),.lit (.pointer none),.lit (.pointer none),.lit (.pointer none)]),some (jY 2 (bT 1++cu (N.take i))),some (jN (bT 1++cu (N.take i)))]))
  (inv:=fun i=>i≤3) (m:=fun i=>3-i) 0 [some 0,some 1,some 4] (akF _) ?_
 intro i hi
 by_cases hil:i<3
 · have hg:=bt N i
   have hx:=jM hNm i;have hgl2:=cQ (N:=N.take i) fun x hx=>hNm x (akt hx);have hti:(N.take i).length≤3:=by rw[akr];omega
   have gm:=dZ (L:=bT 1++cu (N.take i)) (n:=N.getD i 0+1) zo zo (by rw[ake];omega);rw[akl,←jn zo] at gm;generalize N.getD i 0=x at*
   rw[show((x+1:Nat):Int)=(x:Int)+1 by omega] at gm;refine bg hg ?_;refine zW [some 1,some 2] [] gm ?_;refine aR (i+1) [some 0,some 1,some 3] zo zo
 · obtain rfl:i=3:=by omega
   rw[aku zo];have wr:=rw1 (bT 1++cu N) (by rw[ake];omega);have by_:=ik (L:=bT 1++cu N++dr k a b s) zo;have sl:=wU (l:=j9 (bT 1++cu N++dr k a b s)) (lx _) (by rw[gU];omega);rw[sQ] at by_;refine ae ?_;refine zW [some 1,some 2] [] wr ?_;refine zW [some 1,some 3] [] by_ ?_;refine zC sl ?_;exact ai [] hQ
def Pe (k a b:Nat):Prop:=(k=1∧1≤a∧a≤4∧1≤b∧b≤4)∨(k=2∧a≤1∧1≤b∧b≤4)∨(k=3∧1≤a∧a≤2∧1≤b∧b≤4)∨(k=4∧1≤a∧a≤8∧b≤3)
theorem eR {k a b:Nat} (h:Pe k a b):aX k a b:=by
 rcases h with⟨h,h1,h2,h3,h4⟩ | ⟨h,h1,h2,h3⟩ | ⟨h,h1,h2,h3,h4⟩ | ⟨h,h1,h2,h3⟩
 · refine .inl ⟨h,h1,by omega,h3,by omega,?_⟩
   have hb:=bI (n:=a+1) (k:=3) zo;have hp:2^b≤2^4:=ako zd h4;exact akE (akH hb (show 2^b-1≤15 by omega)) zd
 · exact .inr (.inl ⟨h,by omega,h2,by omega⟩)
 · exact .inr (.inr (.inl ⟨h,h1,by omega,h3,by omega⟩))
 · exact .inr (.inr (.inr ⟨h,h1,by omega,by omega⟩))
theorem aaS {k a b:Nat} (h:Pe k a b):b≤4∧a≤8:=by rcases h with h | h | h | h<;>omega
def wi (k a b:Nat) (s:Int×Int×Bool):Nat×Nat×Bool:=
 if k=4 then((s.1%8).toNat%(a+1),(s.2.1%4).toNat%(b+1),s.2.2&&decide ((s.2.1%4).toNat%(b+1)=b))
 else((s.1%16).toNat%(2^b-1+1),0,s.2.2&&decide ((s.1%16).toNat%(2^b-1+1)=2^b-1))
theorem DO {k a b:Nat} {s:Int×Int×Bool}:aZ k a b (wi k a b s):=by
 unfold aZ wi
 by_cases h4:k=4
 · rw[if_pos h4,if_pos h4]
   exact⟨am3 (akD _ (al8 _)),am3 (akD _ (al8 _)),fun h=>by simp at h;exact h.2⟩
 · rw[if_neg h4,if_neg h4]
   exact⟨rfl,am3 (akD _ (al8 _)),fun h=>by simp at h;exact h.2⟩
theorem An {m n:Nat}:((m:Nat):Int)%((n:Int)+1)=((m%(n+1):Nat):Int):=by
 rw[show(n:Int)+1=((n+1:Nat):Int) by omega];exact(Int.natCast_emod m (n+1)).symm
set_option maxHeartbeats 1000000 in
theorem ji {k a b:Nat} {s:Int×Int×Bool} (ha:a≤8) (hb:b≤4):aA Tryz.prog 78 [pR k a b,.agg [.I s.1,.I s.2.1,.lit (.bool s.2.2)]] [] (sR (wi k a b s)) []:=by
 obtain ⟨K,T,F⟩:=s;unfold wi;dsimp only
 by_cases h4:k=4
 · rw[if_pos h4]
   obtain ⟨x,hx⟩:∃x:Nat,K%8=(x:Int):=⟨(K%8).toNat,by omega⟩;obtain ⟨y,hy⟩:∃y:Nat,T%4=(y:Int):=⟨(T%4).toNat,by omega⟩;rw[hx,hy,ak0,ak0];have f1:((x:Nat):Int)%((a:Int)+1)=((x%(a+1):Nat):Int):=An;have f2:((y:Nat):Int)%((b:Int)+1)=((y%(b+1):Nat):Int):=An;have hxl:x%(a+1)<a+1:=akD _ (al8 _);have hyl:y%(b+1)<b+1:=akD _ (al8 _);generalize x%(a+1)=x' at*
   generalize y%(b+1)=y' at*
   have hd:decide ((y':Int)=(b:Int))=decide (y'=b):=by rw[decide_eq_decide];omega
   refine zF Sj Tryz.call78 Tryz.func78 [.cell 4 71] fun Q hQ=>?_
   cases F with
   | true=>
     rw[alB] at hQ;refine WJ hx hy f1 f2 hd ?_;exact ai [] hQ
   | false=>
     rw[amz] at hQ;refine WJ hx hy f1 f2 hd ?_;exact ai [] hQ
 · rw[if_neg h4]
   obtain ⟨x,hx⟩:∃x:Nat,K%16=(x:Int):=⟨(K%16).toNat,by omega⟩;rw[hx,ak0];have hs:=shW (k:=b) zo;have hp:1≤2^b:=akN zd;have hp2:2^b≤2^4:=ako zd hb;obtain ⟨m,hm⟩:∃m,2^b=m+1:=⟨2^b-1,by omega⟩;rw[hm] at hs hp2;rw[hm,alJ];have he:(((m+1:Nat):Int)-1)=(m:Int):=by omega
   have f1:((x:Nat):Int)%((m:Int)+1)=((x%(m+1):Nat):Int):=An;have hxl:x%(m+1)<m+1:=akD _ (al8 _);generalize x%(m+1)=x' at*
   have hd:decide ((x':Int)=(m:Int))=decide (x'=m):=by rw[decide_eq_decide];omega
   refine zF Sj Tryz.call78 Tryz.func78 [.cell 4 71] fun Q hQ=>?_
   cases F with
   | true=>
     rw[alB] at hQ;refine Zk hs he hx f1 hd ?_;exact ai [] hQ
   | false=>
     rw[amz] at hQ;refine Zk hs he hx f1 hd ?_;exact ai [] hQ
set_option maxHeartbeats 1000000 in
theorem gb {kk aa bb:Int}:∃k a b:Nat,Pe k a b∧∀(s:Int×Int×Bool),aA Tryz.prog 22 [.agg [.I kk,.I aa,.I bb],.agg [.I s.1,.I s.2.1,.lit (.bool s.2.2)]] [] (.tup [pR k a b,sR (wi k a b s)]) []:=by
 have t1: -4<kk.tmod 4:=by have:=amF kk (b:=4) zd;omega
 have t2:kk.tmod 4<4:=amf kk zd;obtain ⟨m,hm,hm4⟩:∃m:Nat,(kk.tmod 4+4)%4=(m:Int)∧m<4:=⟨((kk.tmod 4+4)%4).toNat,by omega,by omega⟩;obtain ⟨a3,ha3,ha3'⟩:∃x:Nat,aa%4=(x:Int)∧x<4:=⟨(aa%4).toNat,by omega,by omega⟩;obtain ⟨a1,ha1,ha1'⟩:∃x:Nat,aa%2=(x:Int)∧x<2:=⟨(aa%2).toNat,by omega,by omega⟩;obtain ⟨a7,ha7,ha7'⟩:∃x:Nat,aa%8=(x:Int)∧x<8:=⟨(aa%8).toNat,by omega,by omega⟩;obtain ⟨bx,hbx,hbx'⟩:∃x:Nat,bb%256%4=(x:Int)∧x<4:=⟨(bb%256%4).toNat,by omega,by omega⟩;obtain ⟨b3,hb3,hb3'⟩:∃x:Nat,bb%4=(x:Int)∧x<4:=⟨(bb%4).toNat,by omega,by omega⟩;have e1:∀x:Nat,1+(x:Int)=((1+x:Nat):Int):=fun x=>by omega
 rcases (show m=0∨m=1∨m=2∨m=3 by omega) with rfl | rfl | rfl | rfl
 · refine⟨1,1+a3,1+bx,.inl ⟨rfl,by omega,by omega,by omega,by omega⟩,fun s=>?_⟩
   have w:=ji (k:=1) (a:=1+a3) (b:=1+bx) (s:=s) zo zo;generalize wi 1 (1+a3) (1+bx) s=r at*
   refine zF IC Tryz.call22 Tryz.func22 [.cell 4 23,.cell 5 71] fun Q hQ=>?_;refine LM hm ha3 hbx e1 ?_;refine zC w ?_;exact ai [] hQ
 · refine⟨2,a1,1+bx,.inr (.inl ⟨rfl,by omega,by omega,by omega⟩),fun s=>?_⟩
   have w:=ji (k:=2) (a:=a1) (b:=1+bx) (s:=s) zo zo;generalize wi 2 a1 (1+bx) s=r at*
   refine zF IC Tryz.call22 Tryz.func22 [.cell 4 23,.cell 5 71] fun Q hQ=>?_;refine LM hm ha1 hbx e1 ?_;refine zC w ?_;exact ai [] hQ
 · refine⟨3,1+a1,1+bx,.inr (.inr (.inl ⟨rfl,by omega,by omega,by omega,by omega⟩)),fun s=>?_⟩
   have w:=ji (k:=3) (a:=1+a1) (b:=1+bx) (s:=s) zo zo;generalize wi 3 (1+a1) (1+bx) s=r at*
   refine zF IC Tryz.call22 Tryz.func22 [.cell 4 23,.cell 5 71] fun Q hQ=>?_;refine LM hm ha1 hbx e1 ?_;refine zC w ?_;exact ai [] hQ
 · refine⟨4,1+a7,b3,.inr (.inr (.inr ⟨rfl,by omega,by omega,by omega⟩)),fun s=>?_⟩
   have w:=ji (k:=4) (a:=1+a7) (b:=b3) (s:=s) zo zo;generalize wi 4 (1+a7) b3 s=r at*
   refine zF IC Tryz.call22 Tryz.func22 [.cell 4 23,.cell 5 71] fun Q hQ=>?_;refine LM hm ha7 hb3 e1 ?_;refine zC w ?_;exact ai [] hQ
theorem kS {k a b:Nat}:aA Tryz.prog 23 [pR k a b] [] (pR k a b) []:=by
 refine zF pl Tryz.call23 Tryz.func23 [.cell 2 34] fun Q hQ=>?_;exact zE [] hQ
theorem iw {s:Nat×Nat×Bool}:aA Tryz.prog 24 [sR s] [] (sR s) []:=by
 refine zF pl Tryz.call24 Tryz.func24 [.cell 2 36] fun Q hQ=>?_;exact zE [] hQ
end Go.Proofs.YtcnlmelpnflhnaaGreat
