import Derived.Test.YtcnlmelpnflhnaaGreatBg
import Derived.Test.YtcnlmelpnflhnaaGreatIk
namespace Go.Proofs.YtcnlmelpnflhnaaGreat
open Go.Eng Go.Vx
set_option linter.unusedSimpArgs false
set_option linter.unusedVariables false
set_option maxRecDepth 100000
theorem ou {A B R:List Bool} {n:Nat} (h:B.length=n):((A++(B++R)).drop A.length).take n=B:=by
 rw[List.drop_left' rfl,ahy h]
theorem iQ {A R:List Bool} {k a b:Nat} {s:SR} (h:aT k a b) (w:aP k a b s):uv (A++(cW k a b s++R)) k a b A.length=(some s,A.length+wd k a b,0):=by
 obtain ⟨l1,l2⟩:=zU h w;have e0:A++(cW k a b s++R)=A++(numBits s.1 (w1 k a b)++(numBits s.2.1 (w2 k a b)++([s.2.2]++R))):=by unfold cW;simp
 have t1:=ou (A:=A) (B:=numBits s.1 (w1 k a b)) (R:=numBits s.2.1 (w2 k a b)++([s.2.2]++R)) (ai _ _);have e1:A++(numBits s.1 (w1 k a b)++(numBits s.2.1 (w2 k a b)++([s.2.2]++R)))=(A++numBits s.1 (w1 k a b))++(numBits s.2.1 (w2 k a b)++([s.2.2]++R)):=by simp
 have t2:=ou (A:=A++numBits s.1 (w1 k a b)) (B:=numBits s.2.1 (w2 k a b)) (R:=[s.2.2]++R) (ai _ _);have e2:A++(numBits s.1 (w1 k a b)++(numBits s.2.1 (w2 k a b)++([s.2.2]++R)))=(A++numBits s.1 (w1 k a b)++numBits s.2.1 (w2 k a b))++(s.2.2::R):=by simp
 have t3:((A++numBits s.1 (w1 k a b)++numBits s.2.1 (w2 k a b))++(s.2.2::R)).getD (A.length+w1 k a b+w2 k a b) false=s.2.2:=by
  have hl:A.length+w1 k a b+w2 k a b=(A++numBits s.1 (w1 k a b)++numBits s.2.1 (w2 k a b)).length:=by simp only[agn,ai]
  rw[hl,ago,agy (agt _),ahJ]
  rfl
 rw[←e1,agn,ai] at t2;rw[←e2] at t3
 have hst:Cy (A++(cW k a b s++R)) k a b A.length=s:=by
  unfold Cy;rw[e0,t1,t2,t3,aR,aR,agL l1,agL l2]
 have hlen:A.length+wd k a b≤(A++(cW k a b s++R)).length:=by
  rw[agn,agn,dN];unfold wd;omega
 unfold uv;rw[if_pos hlen,hst,if_pos w]
theorem mF {k a b:Nat} {s:SR}:numBits (jx k a b s) (wd k a b)=cW k a b s:=by
 have h:=lh (cW k a b s);rw[dN] at h;exact h
set_option maxHeartbeats 2000000 in
theorem IG {k a b n i:Nat} {l:List SR} (h:aT k a b) (hn:n≤256) (hi:i<n) (hl:l.length=n) (hw:∀s∈l,aP k a b s):
 aC Tryz.prog 70 [kp k a b n (wd k a b) (bK k a b l),.lit (.int .i64 (i:Int))] [] (.tup [sR (l.getD i (0,0,false)),.lit (.int .i64 0)]) []:=by
 have hwd:=eC h;have hlw:=ay (aZ n (wd k a b)) (bK k a b l);have g:=t6 (n:=n) (w:=wd k a b) (i:=i) (N:=l.map (jx k a b)) hn ⟨hwd.1,by omega⟩ hi (by intro x hx;obtain ⟨s,_,rfl⟩:=aho.1 hx;exact lA k a b s)
 have e1:(l.map (jx k a b)).getD i 0=jx k a b (l.getD i (0,0,false)):=by
  rw[ago,ago,ag4,agp zo]
  rfl
 rw[e1] at g
 have hs:aP k a b (l.getD i (0,0,false)):=by
  rw[ago,agp zo];exact hw _ (ahB _)
 generalize l.getD i (0,0,false)=s at*
 have hx:jx k a b s<2^16:=ag6 (lA k a b s) (agA zd hwd.2);have wdt:=wu (n:=n) (w:=wd k a b) (L:=words (aZ n (wd k a b)) (bK k a b l));have bf:=sI (L:=cW k a b s) (by rw[dN];unfold wd at hwd;omega);have hpl:=j1 (cW k a b s);have hrl:=dN k a b s
 have hI:HY (pk (cW k a b s)):=by
  intro x hx;unfold pk jM at hx;obtain ⟨j,_,rfl⟩:=aho.1 hx
  have:=gE (cW k a b s) j
  omega
 have rd:=Al (B:=pk (cW k a b s)) (by unfold wd at hwd;omega);have rr:=Er (p:=0) h hI (by unfold wd at hwd;omega) zo;have bk:=iQ (A:=[]) (R:=List.replicate (8*(((cW k a b s).length+7)/8)-(cW k a b s).length) false) h hs;rw[List.nil_append,←nu,List.length_nil] at bk;rw[bk] at rr;dsimp only at rr;have wn:=bW (L:=[]) (n:=jx k a b s) (m:=(wd k a b:Int)) zo zd zo zo (by rw[Int.toNat_natCast];exact lA k a b s);rw[Int.toNat_natCast,mF,List.nil_append] at wn;change aC _ _ [i6 n (wd k a b) (words (aZ n (wd k a b)) (bK k a b l)),_] _ _ _ at g;generalize bK k a b l=X at*
 generalize wd k a b=w at*
 refine zF Te Tryz.call70 Tryz.func70 [.cell 4 36,.tmp 5] fun Q hQ=>?_;refine ae ?_;refine zC g ?_;refine eD (wdt) ?_;refine ae ?_;refine zW [some 1,none] [] wn ?_;refine dB (bf) ?_;refine ae ?_;refine zW [] [4] rd ?_;refine zW [some 5] [] rr ?_;exact ak [] hQ
theorem dj {k a b n w X:Nat} (hn:n≤256) (hw:1≤w∧w≤32):aC Tryz.prog 52 [kp k a b n w X] [] (.ref 0 0 0 0) [some (cN 1 k a b),some (cB 2 n w),some (cf n w X)]:=by
 have c:=BA (X:=X) hn hw;have hlw:=ay (aZ n w) X;refine zF WE Tryz.call52 Tryz.func52 [.tmp 2] fun Q hQ=>?_;refine ae ?_;refine zW [] [] c ?_;exact ak [some 2,some 0,some 1] hQ
theorem my {k a b n w X k2 a2 b2 n2 X2 w2:Nat} {e:Bool} (hs:aC Tryz.prog 115 [i6 n w (words (aZ n w) X),i6 n2 w2 (words (aZ n2 w2) X2)] [] (.lit (.bool e)) []):aC Tryz.prog 56 [kp k a b n w X,kp k2 a2 b2 n2 w2 X2] [] (.lit (.bool (decide (k=k2∧a=a2∧b=b2)&&e))) []:=by
 have hlw:=ay (aZ n w) X;have hlw2:=ay (aZ n2 w2) X2
 by_cases hq:k=k2∧a=a2∧b=b2
 · obtain ⟨rfl,rfl,rfl⟩:=hq
   rw[agC ⟨rfl,rfl,rfl⟩,ahE];refine zF MS Tryz.call56 Tryz.func56 [.tmp 4] fun Q hQ=>?_;refine ae ?_;refine zC hs ?_;exact ak [] hQ
 · have hd:(decide ((k:Int)=(k2:Int))&&(decide ((a:Int)=(a2:Int))&&decide ((b:Int)=(b2:Int))))=false:=by
    rw[ah0];intro h;simp only[agv,decide_eq_true_eq] at h;exact hq ⟨by omega,by omega,by omega⟩
   rw[agq hq,aiw];refine zF MS Tryz.call56 Tryz.func56 [.tmp 4] fun Q hQ=>?_;refine bh hd ?_;exact ak [] hQ
theorem Eg {α β:Type} (f:α→β) (l:List α) (i:Nat) (x:α):(l.set i x).map f=(l.map f).set i (f x):=by
 simp
theorem ei {L:List Bool} {k a b n m i p:Nat} {d:Bool} {l:List SR} (hL:L.length≤1048576) (hs:ja k a b) (hm:m≤100) (hn:n≤256) (hi:i<n) (hl:l.length=n) (hw:∀s∈l,aP k a b s) (hp:p≤L.length):
 ∃(e:Int) (l':List SR) (q:Nat) (d':Bool),l'.length=n∧(∀s∈l',aP k a b s)∧q≤L.length∧
 aC Tryz.prog 17 [.ref 0 0 0 0,.ref 3 0 0 0,.lit (.int .i64 (i:Int)),.lit (.int .i64 (m:Int))] [some (cN 1 k a b),some (cB 2 n (wd k a b)),some (cf n (wd k a b) (bK k a b l)),some (aX L p d)] (.lit (.int .i64 e))
  [some (cN 1 k a b),some (cB 2 n (wd k a b)),some (cf n (wd k a b) (bK k a b l')),some (aX L q d')]:=by
 have h:=eF hs;have g:=IG h hn hi hl hw;have hwd:=eC h
 have hws:aP k a b (l.getD i (0,0,false)):=by
  rw[ago,agp zo];exact hw _ (ahB _)
 generalize l.getD i (0,0,false)=s at*
 obtain ⟨e,s',q,d',w',hq,ad⟩:=IV (d:=d) hL hs hm hws hp;have hlw:=ay (aZ n (wd k a b)) (bK k a b l)
 by_cases he:e=0
 · subst he
   have st:=oE (N:=l.map (jx k a b)) h w' hn hi (by rw[agr,hl]) (by intro x hx;obtain ⟨s,_,rfl⟩:=aho.1 hx;exact lA k a b s);refine⟨0,l.set i s',q,d',by rw[ag0,hl],fun x hx=>?_,hq,?_⟩
   · rcases aiq hx with hx | rfl
     · exact hw x hx
     · exact w'
   have e2:bF (wd k a b) ((l.map (jx k a b)).set i (numOf (cW k a b s')))=bK k a b (l.set i s'):=by
    unfold bK;rw[Eg]
    rfl
   have hlw2:=ay (aZ n (wd k a b)) (bK k a b (l.set i s'));rw[e2] at st;change aC _ _ _ [_,_,some (cf n (wd k a b) (bK k a b l))] _ _ at st;generalize bK k a b (l.set i s')=Y at*
   generalize bK k a b l=X at*
   generalize wd k a b=w at*
   refine zF NO Tryz.call17 Tryz.func17 [.tmp 8] fun Q hQ=>?_;refine ae ?_;refine eD (g) ?_;refine ae ?_;refine zW [some 3] [] ad ?_;refine zW [some 0,some 1,some 2] [] st ?_;exact ak [some 0,some 1,some 2,some 3] hQ
 · refine⟨e,l,q,d',hl,hw,hq,?_⟩
   generalize bK k a b l=X at*
   generalize wd k a b=w at*
   refine zF NO Tryz.call17 Tryz.func17 [.tmp 8] fun Q hQ=>?_;refine ae ?_;refine eD (g) ?_;refine ae ?_;refine zW [some 3] [] ad ?_;exact ak [some 0,some 1,some 2,some 3] hQ
theorem sL {n w:Nat} {N:List Nat} {L:List Bool} (hn:n≤256) (hw:1≤w∧w≤32) (hN:N.length=n) (hl:∀x∈N,x<2^w) (hL:L.length<1099511600000):
 aC Tryz.prog 40 [i6 n w (words (aZ n w) (bF w N)),.ref 0 0 0 0] [some (jf 1 L),some (iY L)] (.tup []) [some (jf 2 (L++cQ w N)),none,some (iY (L++cQ w N))]:=by
 refine zF pl Tryz.call40 Tryz.func40 [] fun Q hQ=>?_;have hnw:n*w≤256*32:=agQ hn hw.2;have hlw:=ay (aZ n w) (bF w N);refine ae ?_
 refine aM (X:=Nat) (st:=fun i=>([(0,i6 n w (words (aZ n w) (bF w N))),(1,.ref 0 0 0 0),(10,.lit (.int .i64 (n:Int))),(11,.lit (.int .i64 (i:Int)))],[some (jf 2 (L++cQ w (N.take i))),none,some (iY (L++cQ w (N.take i)))]))
  (inv:=fun i=>i≤n) (m:=fun i=>n-i) 0 [some 0,some 1,some 1] rfl (by simp only[ahk,cQ,List.flatMap_nil,ahj];exact zM) zM zo ?_
 intro i hi
 by_cases h:i<n
 · have hx:=tk hl i
   have ht:=yQ (w:=w) (N:=N) (i:=i) zo;have hlen:=iF w (N.take i);have hlen2:(N.take i).length*w≤256*32:=agQ (by simp;omega) hw.2;have hp:=Bc hw;refine ae ?_;refine zC (t6 (n:=n) (w:=w) (N:=N) (i:=i) hn hw h hl) ?_;refine aV [some 0,some 2] [] (bW (L:=L++cQ w (N.take i)) (n:=N.getD i 0) (m:=(w:Int)) zo (by rw[agn];omega) zo zo (by simpa using hx)) ?_;rw[ag9,agw,←ht];refine ae ?_;refine aO (i+1) [some 0,some 1,some 3] zo zo
 · obtain rfl:i=n:=by omega
   rw[agB (show N.length≤i by omega)];exact zE [some 0,some 1,some 2] hQ
set_option maxHeartbeats 4000000 in
theorem xB {M D S:Nat} {st:SS} {L:List Bool} (hM:M≤16) (hD:D≤4) (hX:st.1.length≤256) (hc:∀c∈st.1,c.1<2^M∧c.2<2^D) (hs:1≤st.2.1∧st.2.1≤8) (hL:L.length<1000000000):
 aC Tryz.prog 41 [G1 M D S st,.ref 0 0 0 0] [some (jf 1 L),some (iY L)] (.tup []) [some (jf 2 (L++ey M D st)),none,some (iY (L++ey M D st))]:=by
 obtain ⟨cs,s,f⟩:=st;dsimp only at hX hc hs;have n1:=bW (L:=L) (n:=s-1) (m:=3) zo zo zd zd (by show s-1<2^3;omega);have b1:=yl (L:=L++numBits (s-1) 3) (x:=f) (by rw[List.length_append,ai];omega);rw[show Int.toNat 3=3 from rfl] at n1;have hs1:(s:Int)-1=((s-1:Nat):Int):=by omega
 have e:L++ey M D (cs,s,f)=L++numBits (s-1) 3++[f]++jG M D cs:=by simp[ey]
 have hl:(L++numBits (s-1) 3++[f]).length<1000000010:=by rw[agn,agn,ai,aip];omega
 have hpM:2^M≤2^16:=agA zd hM;have hpD:2^D≤2^4:=agA zd hD;rw[e];clear e;refine zF Ov Tryz.call41 Tryz.func41 [] fun Q hQ=>?_;refine bh hs1 ?_;refine zW [some 0,some 1] [] n1 ?_;refine aV [some 0,some 2] [] (b1) ?_;generalize L++numBits (s-1) 3++[f]=Q0 at*
 refine ae ?_
 refine aM (X:=Nat) (st:=fun i=>([(0,G1 M D S (cs,s,f)),(1,.ref 0 0 0 0),(23,.row 2 (cs.map cV)),(24,.lit (.int .i64 (cs.length:Int))),(25,.lit (.int .i64 (i:Int)))],[some (jf 2 (Q0++jG M D (cs.take i))),none,some (iY (Q0++jG M D (cs.take i)))]))
  (inv:=fun i=>i≤cs.length) (m:=fun i=>cs.length-i) 0 [some 0,some 1,some 3] rfl (by simp only[ahk,jG,List.flatMap_nil,ahj];exact zM) zM (agM _) ?_
 intro i hi
 by_cases hil:i<cs.length
 · have hgi:cs[i]? =some cs[i]:=agp hil
   have hget:cs.getD i default=cs[i]:=by rw[ago,hgi];rfl
   have htk:=Ed (M:=M) (D:=D) hgi;have hcx:=hc cs[i] (ahB hil);have hsl:=oI M D (cs.take i);have hsl2:(cs.take i).length*(M+D)≤256*20:=agQ (by rw[agz];omega) zo;have hml:(Q0++jG M D (cs.take i)).length<1000010010:=by rw[agn];omega
   have e2:Q0++jG M D (cs.take (i+1))=Q0++jG M D (cs.take i)++numBits cs[i].1 M++numBits cs[i].2 D:=by rw[htk];simp
   clear htk hsl hsl2 hgi;generalize cs[i]=x at*
   generalize Q0++jG M D (cs.take i)=M1 at*
   have n2:=bW (L:=M1) (n:=x.1) (m:=(M:Int)) zo zo zo zo (by rw[ag9];exact hcx.1);have n3:=bW (L:=M1++numBits x.1 M) (n:=x.2) (m:=(D:Int)) zo (by rw[agn,ai];omega) zo zo (by rw[ag9];exact hcx.2);rw[ag9] at n2 n3;refine bh hget ?_;refine zW [some 0,some 2] [] n2 ?_;refine aV [some 0,some 4] [] (n3) ?_;rw[←e2];refine ae ?_;refine aO (i+1) [some 0,some 1,some 5] hil zo
 · obtain rfl:i=cs.length:=by omega
   rw[agF];exact zE [some 0,some 1,some 2] hQ
set_option maxHeartbeats 4000000 in
theorem xU {K P C:Int} {X:List (Nat×Nat)} {N:Nat} {L:List Bool} (hX:X.length≤1000) (hk:∀x∈X,x.1<2305843009213693951∧x.2≤1048576) (h1:N=0∨∀x∈X,1≤x.2) (hN:N≤1048576) (hL:L.length<1000000000):
 aC Tryz.prog 43 [Ib K P C X N,.ref 0 0 0 0] [some (jf 1 L),some (iY L)] (.tup []) [some (jf 2 (L++eH X N)),none,some (iY (L++eH X N))]:=by
 have hvl:=lF hN;refine zF pl Tryz.call43 Tryz.func43 [] fun Q hQ=>?_;refine ae ?_;refine aV [some 0,some 1] [] (sb (L:=L) (n:=N) zo zo) ?_
 by_cases h0:N=0
 · have e:eH X N=cF N:=by unfold eH;rw[if_pos h0,ahj]
   rw[e] at hQ;exact zE [some 0,some 1,some 2] hQ
 · have hr:∀x∈X,1≤x.2:=h1.elim (fun h1=>absurd h1 h0) id
   have e:L++eH X N=L++cF N++jC X:=by unfold eH;rw[if_neg h0,agw]
   rw[e] at hQ;have hl:(L++cF N).length<1000000030:=by rw[agn];omega
   generalize L++cF N=M at*
   clear e hvl;refine ae ?_
   refine aM (X:=Nat) (st:=fun i=>([(1,.ref 0 0 0 0),(21,.row 2 (X.map sV)),(22,.lit (.int .i64 (X.length:Int))),(23,.lit (.int .i64 (i:Int)))],[some (jf 2 (M++jC (X.take i))),none,some (iY (M++jC (X.take i)))]))
    (inv:=fun i=>i≤X.length) (m:=fun i=>X.length-i) 0 [some 0,some 1,some 2] rfl (by simp only[ahk,jC,List.flatMap_nil,ahj];exact zM) zM (agM _) ?_
   intro i hi
   by_cases hil:i<X.length
   · have hgi:X[i]? =some X[i]:=agp hil
     have hget:X.getD i default=X[i]:=by rw[ago,hgi];rfl
     have htk:=EK hgi;have hkx:=hk X[i] (ahB hil);have hrx:=hr X[i] (ahB hil);have hsl:=oT (X:=X.take i) fun y hy=>⟨hr y (ag5 hy),(hk y (ag5 hy)).2⟩;have hsl2:(X.take i).length≤1000:=by rw[agz];omega
     have hml:(M++jC (X.take i)).length<1000200030:=by rw[agn];omega
     have e2:M++jC (X.take (i+1))=M++jC (X.take i)++numBits X[i].1 61++aq X[i].2:=by rw[htk];simp
     clear htk hsl hsl2 hgi;generalize X[i]=x at*
     generalize M++jC (X.take i)=M1 at*
     have n1:=bW (L:=M1) (n:=x.1) (m:=61) zo zo zd zd (by show x.1<2^61;omega);rw[show Int.toNat 61=61 from rfl] at n1;have p1:=dC (L:=M1++numBits x.1 61) (n:=x.2) zo zo (by rw[agn,ai];omega);refine bh hget ?_;refine zW [some 0,some 2] [] n1 ?_;refine aV [some 0,some 4] [] (p1) ?_;rw[←e2];refine ae ?_;refine aO (i+1) [some 0,some 1,some 5] hil zo
   · obtain rfl:i=X.length:=by omega
     rw[agF];exact zE [some 0,some 1,some 2] hQ
theorem jH {l:List Nat} (hl:∀x∈l,x<256) (hm:l.length<1000000):aC Tryz.prog 44 [.row 1 ((nl l).map (ie .u8))] [] (.sl 0 1 0 (l.length+4)) [some (.row 1 ((nl (cU l)).map (ie .u8)))]:=by
 refine zF pl Tryz.call44 Tryz.func44 [.tmp 2] fun Q hQ=>?_;have hnl:=aD l;refine ae ?_;refine zW [] [] (sy (B:=nl l) zo) ?_;refine zC (Hp hl zo) ?_;have hs:=zY l
 refine aM (X:=Nat) (st:=fun j=>([(3,.sl 0 1 0 (l.length+j)),(4,.lit (.int .i64 (3-(j:Int)))),(5,.lit (.int .u32 ((gy l:Nat):Int)))],[some (.row 1 ((nl (l++(iE (gy l)).take j)).map (ie .u8)))]))
  (inv:=fun j=>j≤4) (m:=fun j=>4-j) 0 [some 0] rfl (by rw[ahk,ahj];exact zM) zM zo ?_
 intro j hj;have hll:(nl (l++(iE (gy l)).take j)).length=l.length+j:=by rw[aD];simp[iE];omega
 by_cases h:j<4
 · have ht:nl (l++(iE (gy l)).take (j+1))=nl (l++(iE (gy l)).take j)++[((gy l/2^(8*(3-j))%256:Nat):Int)]:=by
    rw[fG (by simp[iE];omega),AR _ _ h];simp[nl]
   have h83:((8:Int)*(3-(j:Int))).toNat=8*(3-j):=by omega
   have hdv:=gb (gy l) (8*(3-j));generalize gy l/2^(8*(3-j))=q at*
   refine rD h83 hdv @nE ?_;refine aG (j+1) [some 2] rfl (by dsimp only;rw[ht];exact zM) zM zo zo
 · obtain rfl:j=4:=by omega
   have e:l++(iE (gy l)).take 4=cU l:=rfl;rw[e] at*
   have hsl:=gl l;have hns:=aD (cU l);exact zE [some 0] hQ
end Go.Proofs.YtcnlmelpnflhnaaGreat
