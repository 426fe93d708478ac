import Derived.Test.YtcnlmelpnflhnaaGreatBd
import Derived.Test.YtcnlmelpnflhnaaGreatFw
import Derived.Test.YtcnlmelpnflhnaaGreatIk
import Derived.Test.YtcnlmelpnflhnaaGreatBa
import Derived.Test.YtcnlmelpnflhnaaGreatAb
import Derived.Test.YtcnlmelpnflhnaaGreatAc
namespace Go.Proofs.YtcnlmelpnflhnaaGreat
open Go.Eng Go.Vx
set_option linter.unusedSimpArgs false
set_option linter.unusedVariables false
set_option maxRecDepth 100000
abbrev CS:=Nat×Bool×Nat×Bool
def kX (L:List Bool) (w:Nat) (x:CS):Prop:=x.1≤2^w-1∧(x.2.1=true→x.1=2^w-1)∧x.2.2.1≤L.length
def jA (K:Nat) (F:Bool):V:=.agg [.lit (.int .i64 (K:Int)),.lit (.bool F)]
attribute [go_sem] jA
theorem MX {k a w K:Nat} (hs:na k a w) (hK:K≤2^w-1):aC Tryz.prog 124 [pR k a w,.row 1 [[.lit (.int .i64 (K:Int))]]] [] (.lit (.int .i64 0)) []:=by
 obtain ⟨hg,h4⟩:=fK hs;have c:=nL hg h4;have t:=me hg h4;generalize 2^w-1=m at*
 refine zF pl Tryz.call124 Tryz.func124 [.tmp 4] fun Q hQ=>?_;refine ae ?_;refine zC c ?_;refine aU (X:=Nat) (st:=fun i=>([(2,.ref 0 0 0 0),(13,.row 1 [[.lit (.int .i64 (K:Int))]]),(14,.lit (.int .i64 1)),(15,.lit (.int .i64 (i:Int)))],[some (.cells [.lit (.int .i64 (k:Int)),.lit (.int .i64 (a:Int)),.lit (.int .i64 (w:Int))])])) (inv:=fun i=>i=0∨i=1) (m:=fun i=>1-i) 0 [some 0] (.inl rfl) ?_;rintro i (rfl | rfl)
 · refine ae ?_
   refine zC t ?_;refine aO 1 [some 0] (.inr rfl) zo
 · refine ae ?_
   exact ak [] hQ
theorem SF {L:List Bool} {k a w:Nat} (hL:L.length≤1048576) (hs:na k a w) (x:CS) (hx:kX L w x):∃y:Int×CS,kX L w y.2∧
 aC Tryz.prog 126 [pR k a w,jA x.1 x.2.1,.clo 127 [.ref 0 0 0 0,.ref 1 0 0 0]] [some (.cells [kV k a]),some (.cells [.ref 2 0 0 0]),some (aX L x.2.2.1 x.2.2.2)]
  (.tup [jA y.2.1 y.2.2.1,.lit (.int .i64 y.1)]) [some (.cells [kV k a]),some (.cells [.ref 2 0 0 0]),some (aX L y.2.2.2.1 y.2.2.2.2)]:=by
 obtain ⟨K,F,p,d⟩:=x;obtain ⟨h1,h2,h3⟩:=hx;dsimp only at h1 h2 h3 ⊢;obtain ⟨hg,h4⟩:=fK hs;have t:=me hg h4;have hw:2^w≤2^4:=Nat.pow_le_pow_right zd hs.2.2;have hw1:2^w-1≤15:=by omega
 unfold kX
 have hkv:(∃c,kV k a=.lit c):=by unfold kV;split; · exact⟨_,rfl⟩
                                 split<;>exact⟨_,rfl⟩
 by_cases hK:K=2^w-1
 · refine⟨(0,K,true,p,d),⟨h1,fun _=>hK,h3⟩,?_⟩
   dsimp only;generalize 2^w-1=m at*
   subst hK;obtain ⟨c,hc⟩:=hkv;rw[hc];refine zF EA Tryz.call126 Tryz.func126 [.cell 6 140,.tmp 7] fun Q hQ=>?_;refine ae ?_;refine zC t ?_;exact ak [some 0,some 1,some 2] hQ
 · have hF:F=false:=by cases F with | true=>exact absurd (h2 rfl) hK | false=>rfl
   subst hF;obtain ⟨b,e,q,d',hq,h⟩:=IM (d:=d) (p:=p) (K:=K) hL h3 hs zo;refine⟨(e,(if b then K+1 else K),false,q,d'),⟨?_,fun h=>(by cases h),hq⟩,?_⟩
   · dsimp only;split<;>omega
   dsimp only;obtain ⟨c,hc⟩:=hkv;rw[hc] at h ⊢;generalize 2^w-1=m at*
   refine zF EA Tryz.call126 Tryz.func126 [.cell 6 140,.tmp 7] fun Q hQ=>?_;refine ae ?_;refine zC t ?_;refine aV [some 0,some 1,some 2] [] (h) ?_
   cases b with
   | true=>
     rw[if_pos rfl] at hQ;exact zE [some 0,some 1,some 2] hQ
   | false=>
     rw[if_neg (by simp)] at hQ;exact zE [some 0,some 1,some 2] hQ
def ua (G:CS→Int×CS) (m:Nat) (s:CS):Nat→CS→Int×CS
 | 0,x=>(0,x)
 | n+1,x=>if (G x).1≠0 then((G x).1,s.1,s.2.1,(G x).2.2.2) else if (G x).2.2.1=true∧(G x).2.1=m then(0,(G x).2) else ua G m s n (G x).2
theorem Dn {G:CS→Int×CS} {m:Nat} {s x:CS}:ua G m s 0 x=(0,x):=rfl
theorem C7 {G:CS→Int×CS} {m n:Nat} {s x:CS}:ua G m s (n+1) x=if (G x).1≠0 then((G x).1,s.1,s.2.1,(G x).2.2.2) else if (G x).2.2.1=true∧(G x).2.1=m then(0,(G x).2) else ua G m s n (G x).2:=rfl
theorem zX {L:List Bool} {G:CS→Int×CS} {w:Nat} {s:CS} (hG:∀x,kX L w x→kX L w (G x).2) (hs:kX L w s):∀n x,kX L w x→kX L w (ua G (2^w-1) s n x).2
 | 0,x,h=>h
 | n+1,x,h=>by
   unfold ua
   split
   · exact⟨hs.1,hs.2.1,(hG x h).2.2⟩
   · split
     · exact hG x h
     · exact zX hG hs n _ (hG x h)
theorem Kh {L:List Bool} {k a w n:Nat} (hL:L.length≤1048576) (hs:na k a w) (hn:n≤100) (x:CS) (hx:kX L w x):∃y:Int×CS,kX L w y.2∧
 aC Tryz.prog 67 [pR k a w,.ref 0 0 0 0,jA x.1 x.2.1,.lit (.int .i64 (n:Int))] [some (aX L x.2.2.1 x.2.2.2)]
  (.tup [jA y.2.1 y.2.2.1,.lit (.int .i64 y.1)]) [some (aX L y.2.2.2.1 y.2.2.2.2)]:=by
 obtain ⟨G,hG⟩:=Classical.skolem.1 fun x=>show∃y:Int×CS,kX L w x→kX L w y.2∧aC Tryz.prog 126 [pR k a w,jA x.1 x.2.1,.clo 127 [.ref 0 0 0 0,.ref 1 0 0 0]] [some (.cells [kV k a]),some (.cells [.ref 2 0 0 0]),some (aX L x.2.2.1 x.2.2.2)]
  (.tup [jA y.2.1 y.2.2.1,.lit (.int .i64 y.1)]) [some (.cells [kV k a]),some (.cells [.ref 2 0 0 0]),some (aX L y.2.2.2.1 y.2.2.2.2)] from by
  by_cases h:kX L w x
  · obtain ⟨y,hy⟩:=SF hL hs x h
    exact⟨y,fun _=>hy⟩
  · exact⟨(0,x),fun h'=>absurd h' h⟩
 have hGo:∀x,kX L w x→kX L w (G x).2:=fun x h=>(hG x h).1;refine⟨ua G (2^w-1) x n x,zX hGo hx n x hx,?_⟩;obtain ⟨K,F,p,d⟩:=x;have at1:=MX hs hx.1;obtain ⟨hg,h4⟩:=fK hs;have tp:=me hg h4
 have kd:aC Tryz.prog 125 [pR k a w] [] (kV k a) []:=by
  unfold pR kV;rcases hs.1 with⟨rfl,_⟩ | ⟨rfl,_⟩ | ⟨rfl,_⟩
  · exact vL
  · exact uL
  · exact uJ
 obtain ⟨c,hc⟩:(∃c,kV k a=.lit c):=by unfold kV;split; · exact⟨_,rfl⟩
                                      split<;>exact⟨_,rfl⟩
 have hmx:max 0 (n:Int)=(n:Int):=by omega
 have hw:2^w≤2^4:=agA zd hs.2.2;rw[hc] at kd hG;generalize 2^w-1=m at*
 refine zF Vr Tryz.call67 Tryz.func67 [.cell 8 140,.tmp 9] fun Q hQ=>?_;refine ae ?_;refine zW [] [5] at1 ?_;refine az (kd) rfl rfl ?_;refine bh hmx ?_
 refine aU (X:=Nat×CS) (st:=fun z=>([(4,.ref 1 0 0 0),(5,.ref 2 0 0 0),(6,.ref 3 0 0 0),(8,.ref 4 0 0 0),(11,.ref 5 0 0 0),(12,.ref 6 0 0 0),(30,.lit (.int .i64 (n:Int))),(31,.lit (.int .i64 (z.1:Int)))],
  [some (aX L z.2.2.2.1 z.2.2.2.2),some (.cells [.lit (.int .i64 (k:Int)),.lit (.int .i64 (a:Int)),.lit (.int .i64 (w:Int))]),some (.cells [.ref 0 0 0 0]),some (.cells [.lit (.int .i64 (K:Int)),.lit (.bool F)]),some (.cells [.lit (.int .i64 0),.lit (.bool false)]),some (.cells [.lit c]),some (.cells [.lit (.int .i64 (z.2.1:Int)),.lit (.bool z.2.2.1)])]))
  (inv:=fun z=>z.1≤n∧kX L w z.2∧ua G m (K,F,p,d) n (K,F,p,d)=ua G m (K,F,p,d) (n-z.1) z.2) (m:=fun z=>n-z.1) (0,K,F,p,d) [some 0,some 1,some 2,some 3,some 4,some 6,some 7] ⟨by simp,hx,rfl⟩ ?_
 rintro ⟨i,K1,F1,p1,d1⟩ ⟨hi,hz,hv⟩;dsimp only at hi hz hv ⊢
 by_cases hin:i<n
 · obtain ⟨r,hr⟩:∃r,n-i=r+1:=⟨n-i-1,by omega⟩
   have g:=hG (K1,F1,p1,d1) hz;rw[hr,C7] at hv;generalize G (K1,F1,p1,d1)=gx at g hv;obtain ⟨E,K2,F2,p2,d2⟩:=gx;obtain ⟨g1,g2⟩:=g;dsimp only at g1 g2 hv
   by_cases hE:E=0
   · subst hE
     rw[if_neg (by simp)] at hv;refine ae ?_;refine aV [some 5,some 2,some 0] [] (g2) ?_
     cases F2 with
     | true=>
       by_cases hk:K2=m
       · rw[if_pos ⟨rfl,hk⟩] at hv
         rw[hv] at hQ;subst hk;refine ae ?_;refine zC tp ?_;exact ak [some 0] hQ
       · rw[if_neg (fun h=>hk h.2)] at hv
         refine ae ?_;refine zC tp ?_;refine aO (i+1,K2,true,p2,d2) [some 0,some 1,some 2,some 3,some 4,some 5,some 6] ⟨by omega,g1,?_⟩ zo;rw[hv,show n-(i+1)=r by omega]
     | false=>
       rw[if_neg (fun h=>(by cases h.1))] at hv;refine ae ?_;refine aO (i+1,K2,false,p2,d2) [some 0,some 1,some 2,some 3,some 4,some 5,some 6] ⟨by omega,g1,?_⟩ zo;rw[hv,show n-(i+1)=r by omega]
   · rw[if_pos hE] at hv
     rw[hv] at hQ;refine ae ?_;refine zW [some 5,some 2,some 0] [] g2 ?_;exact ak [some 0] hQ
 · obtain rfl:i=n:=by omega
   rw[ahJ,Dn] at hv;rw[hv] at hQ;exact zE [some 0] hQ
open Go.Eng
def jG (M D:Nat) (cs:List Cell):List Bool:=cs.flatMap fun c=>numBits c.1 M++numBits c.2 D
def ey (M D:Nat) (st:SS):List Bool:=numBits (st.2.1-1) 3++[st.2.2]++jG M D st.1
theorem jP (M D:Nat) (c:Cell) (cs:List Cell):jG M D (c::cs)=numBits c.1 M++numBits c.2 D++jG M D cs:=by simp[jG]
theorem I6 (M D:Nat) (X Y:List Cell):jG M D (X++Y)=jG M D X++jG M D Y:=by simp[jG]
theorem oI (M D:Nat):∀(cs:List Cell),(jG M D cs).length=cs.length*(M+D)
 | []=>by simp[jG]
 | c::cs=>by rw[jP,agn,agn,ai,ai,oI M D cs,agu,agH];omega
theorem Ed {M D:Nat} {X:List Cell} {i:Nat} {x:Cell} (h:X[i]? =some x):jG M D (X.take (i+1))=jG M D (X.take i)++numBits x.1 M++numBits x.2 D:=by
 rw[ah9,h,I6];simp[jG]
theorem oW (M D:Nat) (st:SS):(ey M D st).length=4+st.1.length*(M+D):=by
 unfold ey;rw[agn,agn,ai,oI]
 rfl
def MO (L:List Bool) (M D:Nat):Nat→Nat→Option (List Cell)×Nat×Int
 | 0,p=>(some [],p,0)
 | c+1,p=>
   if p+(M+D)≤L.length then
    (if numOf ((L.drop p).take M)=0∧0<numOf ((L.drop (p+M)).take D) then(none,p+M+D,4)
     else((MO L M D c (p+M+D)).1.map (fun X=>(numOf ((L.drop p).take M),numOf ((L.drop (p+M)).take D))::X),(MO L M D c (p+M+D)).2))
   else(none,p,5)
def srR (L:List Bool) (M D S n p:Nat):Option SS×Nat×Int:=
 if p+4≤L.length then
  (if S<numOf ((L.drop p).take 3)+1∨(L.getD (p+3) false=true∧numOf ((L.drop p).take 3)+1<S) then(none,p+4,4)
   else((MO L M D n (p+4)).1.map (fun X=>(X,numOf ((L.drop p).take 3)+1,L.getD (p+3) false)),(MO L M D n (p+4)).2))
 else(none,p,5)
theorem wz {M D:Nat} {R:List Bool}:∀(X:List Cell) (A:List Bool),(∀x∈X,x.1<2^M∧x.2<2^D∧(x.1=0→x.2=0))→
 MO (A++(jG M D X++R)) M D X.length A.length=(some X,A.length+(jG M D X).length,0)
 | [],A,h=>by simp[MO,jG]
 | x::X,A,h=>by
   obtain ⟨h1,h2,h3⟩:=h x (by simp);have ih:=wz (M:=M) (D:=D) (R:=R) X (A++numBits x.1 M++numBits x.2 D) (fun y hy=>h y (by simp[hy]));have e:A++(jG M D (x::X)++R)=A++numBits x.1 M++numBits x.2 D++(jG M D X++R):=by rw[jP];simp
   have e2:A++(jG M D (x::X)++R)=A++numBits x.1 M++(numBits x.2 D++(jG M D X++R)):=by rw[jP];simp
   have e3:A++(jG M D (x::X)++R)=A++(numBits x.1 M++(numBits x.2 D++(jG M D X++R))):=by rw[jP];simp
   have hn:numOf (((A++(jG M D (x::X)++R)).drop A.length).take M)=x.1:=by
    rw[e3,aiN,ahy (ai _ _),aR,agL h1]
   have hm:numOf (((A++(jG M D (x::X)++R)).drop (A.length+M)).take D)=x.2:=by
    rw[e2,show A.length+M=(A++numBits x.1 M).length by rw[agn,ai],aiN,ahy (ai _ _),aR,agL h2]
   have hl:A.length+(M+D)≤(A++(jG M D (x::X)++R)).length:=by rw[e3];simp[ai];try omega
   rw[agn,agn,ai,ai,←e] at ih;rw[agu];unfold MO;rw[if_pos hl,hn,hm,if_neg (fun h=>by have:=h3 h.1;omega),ih,jP];simp only[ahi,agn,ai]
   congr 2
   omega
def okS (M D S n:Nat) (st:SS):Prop:=st.1.length=n∧(∀x∈st.1,x.1<2^M∧x.2<2^D∧(x.1=0→x.2=0))∧1≤st.2.1∧st.2.1≤S∧(st.2.2=true→st.2.1=S)
theorem vm {A R:List Bool} {M D S n:Nat} {st:SS} (hS:S≤8) (h:okS M D S n st):srR (A++(ey M D st++R)) M D S n A.length=(some st,A.length+(ey M D st).length,0):=by
 obtain ⟨h1,h2,h3,h4,h5⟩:=h;obtain ⟨cs,s,f⟩:=st;dsimp only at h1 h2 h3 h4 h5;have hr:=wz (M:=M) (D:=D) (R:=R) cs (A++numBits (s-1) 3++[f]) h2;have e:A++(ey M D (cs,s,f)++R)=A++numBits (s-1) 3++[f]++(jG M D cs++R):=by simp[ey]
 have e2:A++(ey M D (cs,s,f)++R)=A++numBits (s-1) 3++([f]++(jG M D cs++R)):=by simp[ey]
 have e3:A++(ey M D (cs,s,f)++R)=A++(numBits (s-1) 3++([f]++(jG M D cs++R))):=by simp[ey]
 have hn:numOf (((A++(ey M D (cs,s,f)++R)).drop A.length).take 3)=s-1:=by
  rw[e3,aiN,ahy (ai _ _),aR,agL (show s-1<2^3 by omega)]
 have hf:(A++(ey M D (cs,s,f)++R)).getD (A.length+3) false=f:=by
  rw[e2,show A.length+3=(A++numBits (s-1) 3).length by rw[agn,ai],ago,agy (agt _),ahJ]
  rfl
 have hl:A.length+4≤(A++(ey M D (cs,s,f)++R)).length:=by rw[e];simp[ai];omega
 rw[←e,h1,agn,agn,ai,aip] at hr;unfold srR
 rw[if_pos hl,hn,hf,if_neg (fun h=>by
  rcases h with h | ⟨h,h'⟩
  · omega
  · have:=h5 h;omega),show A.length+4=A.length+3+1 by omega,hr,show s-1+1=s by omega,oW]
 simp only[ahi];rw[oI]
 try dsimp only
 congr 2
 omega
theorem NT {M D S:Nat} {st:SS} (h:SOk (cD M D S) st):okS M D S st.1.length st:=by
 refine⟨rfl,fun x hx=>?_,h.s1,h.s2,h.f⟩;obtain ⟨a,b,c⟩:=h.c x hx;have hM:0<2^M:=agV zd;have hD:0<2^D:=agV zd;have ha:x.1≤2^M-1:=a;have hb:x.2≤2^D-1:=b;exact⟨by omega,by omega,c⟩
theorem Cf {X:List (Nat×Nat)} (hX:X.length≤1000000) (h:X≠ []):aC Tryz.prog 114 [.row 2 (X.map sV)] [] (.sl 0 2 0 X.length) [some (.row 2 (X.map sV))]:=by
 refine zF pl Tryz.call114 Tryz.func114 [.tmp 2] fun Q hQ=>?_;have he:(X.map sV).isEmpty=false:=by simp[h]
 refine bh he ?_;exact ak [some 1] hQ
theorem sT {K P C:Int} {X:List (Nat×Nat)} {N:Nat} (hX:X.length≤1000000) (h:X≠ []):aC Tryz.prog 55 [Ib K P C X N] [] (.ref 0 0 0 0)
 [some (.cells [.lit (.int .i64 K),.lit (.int .i64 P),.lit (.int .i64 C),.sl 1 2 0 X.length,.lit (.int .i64 (N:Int))]),some (.row 2 (X.map sV))]:=by
 have hc:=Cf hX h;refine zF Uz Tryz.call55 Tryz.func55 [.tmp 2] fun Q hQ=>?_;refine ae ?_;refine dB (hc) ?_;exact zE [some 1,some 0] hQ
theorem Kj {K P C:Int} {X:List (Nat×Nat)} {N key p:Nat} {L:List Bool} (hX:X.length≤1000000) (h:X≠ []) (hk:key<2305843009213693951) (hN:N<1048576) (hL:L.length≤1048576) (hp:p≤L.length) (hR:∀x∈X,x.2≤1048576):
 aC Tryz.prog 20 [.ref 0 0 0 0,.ref 1 0 0 0,.lit (.int .u64 (key:Int))] [some (oF K P C X N),some (aX L p false)]
 (.lit (.int .i64 (match fm L (N+1) key X p with | some _=>0 | none=>8)))
 (match fm L (N+1) key X p with | some r=> [some (oF K P C r.1 (N+1)),some (aX L r.2 false)] | none=> [some (oF K P C X N),some (aX L L.length true)]):=by
 have hc:=sT (K:=K) (P:=P) (C:=C) (N:=N) hX h;have hN1:(N:Int)+1=((N+1:Nat):Int):=by omega
 refine zF pl Tryz.call20 Tryz.func20 [.tmp 6] fun Q hQ=>?_;refine ae ?_;refine dB (hc) ?_;refine ae ?_
 refine aU (X:=Nat×List (Nat×Nat)×Nat) (st:=fun y=>([(0,.ref 0 0 0 0),(1,.ref 1 0 0 0),(2,.lit (.int .u64 (key:Int))),(7,.ref 2 0 0 0),(34,.lit (.int .i64 (X.length:Int))),(35,.lit (.int .i64 (y.1:Int)))],[some (oF K P C X N),some (aX L y.2.2 false),some (.cells [.lit (.int .i64 K),.lit (.int .i64 P),.lit (.int .i64 C),.sl 3 2 0 X.length,.lit (.int .i64 ((N+1:Nat):Int))]),some (.row 2 (y.2.1.map sV))]))
  (inv:=fun y=>y.1≤X.length∧y.2.1.length=X.length∧y.2.2≤L.length∧fm L (N+1) key X p=(fm L (N+1) key (y.2.1.drop y.1) y.2.2).map (fun r=>(y.2.1.take y.1++r.1,r.2))∧∀x∈y.2.1.drop y.1,x.2≤1048576) (m:=fun y=>X.length-y.1) (0,X,p) [some 0,some 1,some 2,some 3] ⟨agM _,rfl,hp,by simp,by simpa using hR⟩ ?_
 rintro ⟨i,Y,q⟩ ⟨hi,hY,hq,hu,hR2⟩;dsimp only at hi hY hq hu hR2 ⊢
 by_cases hil:i<X.length
 · have hiY:i<Y.length:=by omega
   have hdr:Y.drop i=Y[i]::Y.drop (i+1):=ahn hiY;have hget:Y.getD i default=Y[i]:=by rw[ago,agp hiY];rfl
   have hx2:Y[i].2≤1048576:=hR2 Y[i] (by rw[hdr];exact aim);have hset:∀z:Nat×Nat,(Y.map sV).set i [.lit (.int .u64 (z.1:Int)),.lit (.int .i64 (z.2:Int))]=(Y.set i z).map sV:=fun z=>by rw[List.map_set];rfl
   have hb:=Eb (L:=L) (n:=N+1) (p:=q) hL hq zo zo;have hub:fm L (N+1) key (Y.drop i) q=if (bP L (N+1) q).2.1=0 then(fm L (N+1) key (Y.drop (i+1)) (bP L (N+1) q).2.2.1).map fun r=>(LY key (bP L (N+1) q).1 Y[i]::r.1,r.2) else none:=by rw[hdr];rfl
   have hnext:∀z q',fm L (N+1) key (Y.drop i) q=(fm L (N+1) key (Y.drop (i+1)) q').map (fun r=>(z::r.1,r.2))→fm L (N+1) key X p=(fm L (N+1) key ((Y.set i z).drop (i+1)) q').map (fun r=>((Y.set i z).take (i+1)++r.1,r.2)):=by
    intro z q' e;have e1:(Y.set i z).drop (i+1)=Y.drop (i+1):=by rw[ait zo]
    have e2:(Y.set i z).take (i+1)=Y.take i++[z]:=by
     rw[agW (by simpa using hiY),List.take_set_of_le (agt i)]
     simp
    rw[hu,e,e1,e2,Option.map_map]
    congr 1
    funext r
    simp
   have hR3:∀z,∀x∈(Y.set i z).drop (i+1),x.2≤1048576:=by
    intro z x hx;rw[ait zo] at hx;exact hR2 x (by rw[hdr];exact ahI _ hx)
   by_cases h0:(bP L (N+1) q).2.1=0
   · obtain ⟨hd,hlt⟩:=s8 (aic N) h0
     have hend:=rj (L:=L) (n:=N+1) hq;rw[if_pos h0] at hub;rw[hd,h0] at hb;have hn:=hnext _ _ hub;have hself:Y.set i Y[i]=Y:=List.set_getElem_self _;have hlen:∀z,(Y.set i z).length=X.length:=fun z=>by rw[ag0];exact hY
     generalize (bP L (N+1) q).2.2.1=q' at*
     generalize (bP L (N+1) q).1=a at*
     generalize Y[i]=x at*
     unfold LY at hn
     by_cases ha:a=0
     · rw[if_pos ha] at hn
       have hs:(Y.map sV).set i [.lit (.int .u64 (key:Int)),.lit (.int .i64 1)]=(Y.set i (key,1)).map sV:=hset (key,1);subst ha;refine bh hget ?_;refine aV [some 1] [] (hb) ?_;refine dK hget hs ?_;refine aO (i+1,Y.set i (key,1),q') [some 0,some 1,some 2,some 3] ⟨hil,hlen _,hend.2,hn,hR3 _⟩ (by dsimp only;omega)
     · rw[if_neg ha] at hn
       by_cases hxk:x.1=key
       · rw[if_pos hxk] at hn
         have hs:=hset (x.1,x.2+1);have hx1:((x.2+1:Nat):Int)=(x.2:Int)+1:=by omega
         rw[hx1] at hs;refine bh hget ?_;refine aV [some 1] [] (hb) ?_;refine dK hget hs ?_;refine aO (i+1,Y.set i (x.1,x.2+1),q') [some 0,some 1,some 2,some 3] ⟨hil,hlen _,hend.2,hn,hR3 _⟩ (by dsimp only;omega)
       · rw[if_neg hxk] at hn
         rw[hself] at hn;have hR4:=hR3 x;rw[hself] at hR4;refine bh hget ?_;refine aV [some 1] [] (hb) ?_;refine bh hget ?_;refine aO (i+1,Y,q') [some 0,some 1,some 2,some 3] ⟨hil,hY,hend.2,hn,hR4⟩ (by dsimp only;omega)
   · have he:=zb (aic N) h0
     rw[if_neg h0] at hub;rw[he] at hb;rw[hub,Option.map_none] at hu;rw[hu] at hQ;dsimp only at hQ;refine bh hget ?_;refine zW [some 1] [] hb ?_;exact ak [some 0,some 1] hQ
 · obtain rfl:i=X.length:=by omega
   have hdr:Y.drop X.length=[]:=List.drop_eq_nil_of_le zo;have htk:Y.take X.length=Y:=agB zo;rw[hdr,htk] at hu;have hu2:fm L (N+1) key X p=some (Y,q):=by rw[hu];simp[fm]
   rw[hu2] at hQ;dsimp only at hQ;exact zE [some 0,some 1] hQ
end Go.Proofs.YtcnlmelpnflhnaaGreat
