import Derived.Test.YtcnlmelpnflhnaaGreatBr
import Derived.Test.YtcnlmelpnflhnaaGreatAb
import Derived.Test.YtcnlmelpnflhnaaGreatBg
import Derived.Test.YtcnlmelpnflhnaaGreatIc
namespace Go.Proofs.YtcnlmelpnflhnaaGreat
open Go.Eng Go.Vx
set_option linter.unusedSimpArgs false
set_option linter.unusedVariables false
set_option maxRecDepth 100000
theorem uz {n w:Nat} {N:List Nat} {L:List Bool} (hn:n≤256) (hw:1≤w∧w≤32) (hN:N.length=n) (hl:∀x∈N,x<2^w) (hL:L.length<1099511600000):
 aA Tryz.prog 40 [jC n w (words (aZ n w) (aV w N)),.ref 0 0 0 0] [some (jK 1 L),some (jy L)] (.tup []) [some (jK 2 (L++cX w N)),none,some (jy (L++cX w N))]:=by
 refine zF pl Tryz.call40 Tryz.func40 [] fun Q hQ=>?_;have hnw:n*w≤256*32:=ajO hn hw.2;have hlw:=aq (aZ n w) (aV w N);refine ae ?_
 refine aT (X:=Nat) (st:=fun i=>([(0,jC n w (words (aZ n w) (aV w N))),(1,.ref 0 0 0 0),(10,.lit (.int .i64 (n:Int))),(11,.lit (.int .i64 (i:Int)))],[some (jK 2 (L++cX w (N.take i))),none,some (jy (L++cX w (N.take i)))]))
  (inv:=fun i=>i≤n) (m:=fun i=>n-i) 0 [some 0,some 1,some 1] rfl (by simp only[akj,cX,List.flatMap_nil,ake];exact zM) zM zo ?_
 intro i hi
 by_cases h:i<n
 · have hx:=vi hl i
   have ht:=Bj (w:=w) (N:=N) (i:=i) zo;have hlen:=gU w (N.take i);have hlen2:(N.take i).length*w≤256*32:=ajO (by simp;omega) hw.2;have hp:=Dm hw;refine ae ?_;refine zC (v9 (n:=n) (w:=w) (N:=N) (i:=i) hn hw h hl) ?_;refine aF [some 0,some 2] [] (cz (L:=L++cX w (N.take i)) (n:=N.getD i 0) (m:=(w:Int)) zo (by rw[ajj];omega) zo zo (by simpa using hx)) ?_;rw[aj6,ajq,←ht];refine ae ?_;refine aM (i+1) [some 0,some 1,some 3] zo zo
 · obtain rfl:i=n:=by omega
   rw[ajy (show N.length≤i by omega)];exact zE [some 0,some 1,some 2] hQ
set_option maxHeartbeats 4000000 in
theorem zN {M D S:Nat} {st:SS} {L:List Bool} (hM:M≤16) (hD:D≤4) (hX:st.1.length≤256) (hc:∀c∈st.1,c.1<2^M∧c.2<2^D) (hs:1≤st.2.1∧st.2.1≤8) (hL:L.length<1000000000):
 aA Tryz.prog 41 [I6 M D S st,.ref 0 0 0 0] [some (jK 1 L),some (jy L)] (.tup []) [some (jK 2 (L++ey M D st)),none,some (jy (L++ey M D st))]:=by
 obtain ⟨cs,s,f⟩:=st;dsimp only at hX hc hs;have n1:=cz (L:=L) (n:=s-1) (m:=3) zo zo zd zd (by show s-1<2^3;omega);have b1:=AA (L:=L++numBits (s-1) 3) (x:=f) (by rw[List.length_append,aj];omega);rw[show Int.toNat 3=3 from rfl] at n1;have hs1:(s:Int)-1=((s-1:Nat):Int):=by omega
 have e:L++ey M D (cs,s,f)=L++numBits (s-1) 3++[f]++kc M D cs:=by simp[ey]
 have hl:(L++numBits (s-1) 3++[f]).length<1000000010:=by rw[ajj,ajj,aj,akw];omega
 have hpM:2^M≤2^16:=ajv zd hM;have hpD:2^D≤2^4:=ajv zd hD;rw[e];clear e;refine zF Ri Tryz.call41 Tryz.func41 [] fun Q hQ=>?_;refine br hs1 ?_;refine zW [some 0,some 1] [] n1 ?_;refine aF [some 0,some 2] [] (b1) ?_;generalize L++numBits (s-1) 3++[f]=Q0 at*
 refine ae ?_
 refine aT (X:=Nat) (st:=fun i=>([(0,I6 M D S (cs,s,f)),(1,.ref 0 0 0 0),(23,.row 2 (cs.map cV)),(24,.lit (.int .i64 (cs.length:Int))),(25,.lit (.int .i64 (i:Int)))],[some (jK 2 (Q0++kc M D (cs.take i))),none,some (jy (Q0++kc M D (cs.take i)))]))
  (inv:=fun i=>i≤cs.length) (m:=fun i=>cs.length-i) 0 [some 0,some 1,some 3] rfl (by simp only[akj,kc,List.flatMap_nil,ake];exact zM) zM (ajH _) ?_
 intro i hi
 by_cases hil:i<cs.length
 · have hgi:cs[i]? =some cs[i]:=ajm hil
   have hget:cs.getD i default=cs[i]:=by rw[ajk,hgi];rfl
   have htk:=Gl (M:=M) (D:=D) hgi;have hcx:=hc cs[i] (akA hil);have hsl:=pX M D (cs.take i);have hsl2:(cs.take i).length*(M+D)≤256*20:=ajO (by rw[ajt];omega) zo;have hml:(Q0++kc M D (cs.take i)).length<1000010010:=by rw[ajj];omega
   have e2:Q0++kc M D (cs.take (i+1))=Q0++kc M D (cs.take i)++numBits cs[i].1 M++numBits cs[i].2 D:=by rw[htk];simp
   clear htk hsl hsl2 hgi;generalize cs[i]=x at*
   generalize Q0++kc M D (cs.take i)=M1 at*
   have n2:=cz (L:=M1) (n:=x.1) (m:=(M:Int)) zo zo zo zo (by rw[aj6];exact hcx.1);have n3:=cz (L:=M1++numBits x.1 M) (n:=x.2) (m:=(D:Int)) zo (by rw[ajj,aj];omega) zo zo (by rw[aj6];exact hcx.2);rw[aj6] at n2 n3;refine br hget ?_;refine zW [some 0,some 2] [] n2 ?_;refine aF [some 0,some 4] [] (n3) ?_;rw[←e2];refine ae ?_;refine aM (i+1) [some 0,some 1,some 5] hil zo
 · obtain rfl:i=cs.length:=by omega
   rw[ajz];exact zE [some 0,some 1,some 2] hQ
set_option maxHeartbeats 4000000 in
theorem Ae {K P C:Int} {X:List (Nat×Nat)} {N:Nat} {L:List Bool} (hX:X.length≤1000) (hk:∀x∈X,x.1<2305843009213693951∧x.2≤1048576) (h1:N=0∨∀x∈X,1≤x.2) (hN:N≤1048576) (hL:L.length<1000000000):
 aA Tryz.prog 43 [KC K P C X N,.ref 0 0 0 0] [some (jK 1 L),some (jy L)] (.tup []) [some (jK 2 (L++eE X N)),none,some (jy (L++eE X N))]:=by
 have hvl:=mL hN;refine zF pl Tryz.call43 Tryz.func43 [] fun Q hQ=>?_;refine ae ?_;refine aF [some 0,some 1] [] (tW (L:=L) (n:=N) zo zo) ?_
 by_cases h0:N=0
 · have e:eE X N=cZ N:=by unfold eE;rw[if_pos h0,ake]
   rw[e] at hQ;exact zE [some 0,some 1,some 2] hQ
 · have hr:∀x∈X,1≤x.2:=h1.elim (fun h1=>absurd h1 h0) id
   have e:L++eE X N=L++cZ N++j7 X:=by unfold eE;rw[if_neg h0,ajq]
   rw[e] at hQ;have hl:(L++cZ N).length<1000000030:=by rw[ajj];omega
   generalize L++cZ N=M at*
   clear e hvl;refine ae ?_
   refine aT (X:=Nat) (st:=fun i=>([(1,.ref 0 0 0 0),(21,.row 2 (X.map sV)),(22,.lit (.int .i64 (X.length:Int))),(23,.lit (.int .i64 (i:Int)))],[some (jK 2 (M++j7 (X.take i))),none,some (jy (M++j7 (X.take i)))]))
    (inv:=fun i=>i≤X.length) (m:=fun i=>X.length-i) 0 [some 0,some 1,some 2] rfl (by simp only[akj,j7,List.flatMap_nil,ake];exact zM) zM (ajH _) ?_
   intro i hi
   by_cases hil:i<X.length
   · have hgi:X[i]? =some X[i]:=ajm hil
     have hget:X.getD i default=X[i]:=by rw[ajk,hgi];rfl
     have htk:=GS hgi;have hkx:=hk X[i] (akA hil);have hrx:=hr X[i] (akA hil);have hsl:=qe (X:=X.take i) fun y hy=>⟨hr y (ajM hy),(hk y (ajM hy)).2⟩;have hsl2:(X.take i).length≤1000:=by rw[ajt];omega
     have hml:(M++j7 (X.take i)).length<1000200030:=by rw[ajj];omega
     have e2:M++j7 (X.take (i+1))=M++j7 (X.take i)++numBits X[i].1 61++ai X[i].2:=by rw[htk];simp
     clear htk hsl hsl2 hgi;generalize X[i]=x at*
     generalize M++j7 (X.take i)=M1 at*
     have n1:=cz (L:=M1) (n:=x.1) (m:=61) zo zo zd zd (by show x.1<2^61;omega);rw[show Int.toNat 61=61 from rfl] at n1;have p1:=dV (L:=M1++numBits x.1 61) (n:=x.2) zo zo (by rw[ajj,aj];omega);refine br hget ?_;refine zW [some 0,some 2] [] n1 ?_;refine aF [some 0,some 4] [] (p1) ?_;rw[←e2];refine ae ?_;refine aM (i+1) [some 0,some 1,some 5] hil zo
   · obtain rfl:i=X.length:=by omega
     rw[ajz];exact zE [some 0,some 1,some 2] hQ
theorem kg {l:List Nat} (hl:∀x∈l,x<256) (hm:l.length<1000000):aA Tryz.prog 44 [.row 1 ((nl l).map (ie .u8))] [] (.sl 0 1 0 (l.length+4)) [some (.row 1 ((nl (bV l)).map (ie .u8)))]:=by
 refine zF pl Tryz.call44 Tryz.func44 [.tmp 2] fun Q hQ=>?_;have hnl:=ay l;refine ae ?_;refine zW [] [] (uc (B:=nl l) zo) ?_;refine zC (Jw hl zo) ?_;have hs:=Ce l
 refine aT (X:=Nat) (st:=fun j=>([(3,.sl 0 1 0 (l.length+j)),(4,.lit (.int .i64 (3-(j:Int)))),(5,.lit (.int .u32 ((ij l:Nat):Int)))],[some (.row 1 ((nl (l++(jd (ij l)).take j)).map (ie .u8)))]))
  (inv:=fun j=>j≤4) (m:=fun j=>4-j) 0 [some 0] rfl (by rw[akj,ake];exact zM) zM zo ?_
 intro j hj;have hll:(nl (l++(jd (ij l)).take j)).length=l.length+j:=by rw[ay];simp[jd];omega
 by_cases h:j<4
 · have ht:nl (l++(jd (ij l)).take (j+1))=nl (l++(jd (ij l)).take j)++[((ij l/2^(8*(3-j))%256:Nat):Int)]:=by
    rw[gk (by simp[jd];omega),Da _ _ h];simp[nl]
   have h83:((8:Int)*(3-(j:Int))).toNat=8*(3-j):=by omega
   have hdv:=gQ (ij l) (8*(3-j));generalize ij l/2^(8*(3-j))=q at*
   refine qZ h83 hdv @oO ?_;refine aH (j+1) [some 2] rfl (by dsimp only;rw[ht];exact zM) zM zo zo
 · obtain rfl:j=4:=by omega
   have e:l++(jd (ij l)).take 4=bV l:=rfl;rw[e] at*
   have hsl:=g9 l;have hns:=ay (bV l);exact zE [some 0] hQ
def Bf (k a b:Nat) (r:RW):List Bool:=numBits r.1 61++numBits r.2.1 61++cX (wd k a b) (r.2.2.map (fj k a b))
def dK (k a b:Nat) (l:List RW):List Bool:=l.flatMap (Bf k a b)
def nX (k a b:Nat) (l:List RW) (T:Nat):List Bool:=cZ T++dK k a b l
theorem Ec (k a b:Nat) (x:RW) (l:List RW):dK k a b (x::l)=Bf k a b x++dK k a b l:=by simp[dK]
theorem Ga (k a b:Nat) (l m:List RW):dK k a b (l++m)=dK k a b l++dK k a b m:=by simp[dK]
theorem EG {k a b:Nat} {l:List RW} {i:Nat} {x:RW} (h:l[i]? =some x):dK k a b (l.take (i+1))=dK k a b (l.take i)++numBits x.1 61++numBits x.2.1 61++cX (wd k a b) (x.2.2.map (fj k a b)):=by
 rw[ak7,h,Ga];simp[dK,Bf]
theorem Nl {k a b C:Nat} {r:RW} (h:bC k a b C r):(Bf k a b r).length=122+C*wd k a b:=by
 unfold Bf;rw[ajj,ajj,aj,aj,gU,ajl,h.2.2.1]
theorem nz {k a b C:Nat}:∀{l:List RW},(∀r∈l,bC k a b C r)→(dK k a b l).length=l.length*(122+C*wd k a b)
 | [],_=>by simp[dK]
 | r::l,h=>by
   rw[Ec,ajj,Nl (h r (by simp)),nz (l:=l) (fun x hx=>h x (by simp[hx])),ajr,Nat.succ_mul];omega
theorem rE {n:Nat} (h:n≤1099511627776):(cZ n).length≤48:=by
 have hb:=bP (n:=n) (k:=41) zo;rw[qT];omega
@[go_sem] theorem ad4 {k a b C:Nat} {r:RW}:fW k a b C r=[.lit (.int .u64 (r.1:Int)),.lit (.int .u64 (r.2.1:Int)),.ptr 4 [[.ptr 3 [[.row 1 ((words (aZ C (wd k a b)) (aV (wd k a b) (r.2.2.map (fj k a b)))).map (ie .u64)),.lit (.int .i64 (C:Int)),.lit (.int .i64 (wd k a b:Int))]] 0 0,.lit (.int .i64 (k:Int)),.lit (.int .i64 (a:Int)),.lit (.int .i64 (b:Int))]] 0 0]:=(rfl)
set_option maxHeartbeats 4000000 in
theorem xf {R C k a b T:Nat} {l:List RW} {L:List Bool} (h:aL k a b) (hC:1≤C∧C≤64) (hR:l.length≤4) (hl:∀r∈l,bC k a b C r) (hT:T≤1099511627776) (hL:L.length<1000000000):
 aA Tryz.prog 42 [nk R C k a b l T,.ref 0 0 0 0] [some (jK 1 L),some (jy L)] (.tup []) [some (jK 2 (L++nX k a b l T)),none,some (jy (L++nX k a b l T))]:=by
 have hvl:=rE hT;have hwd:=dN h;refine zF pl Tryz.call42 Tryz.func42 [] fun Q hQ=>?_;refine ae ?_;refine aF [some 0,some 1] [] (tW (L:=L) (n:=T) zo zo) ?_;have e:L++nX k a b l T=L++cZ T++dK k a b l:=by unfold nX;rw[ajq]
 rw[e] at hQ;have hml:(L++cZ T).length<1000000050:=by rw[ajj];omega
 generalize L++cZ T=M at*
 clear e hvl;refine ae ?_
 refine aT (X:=Nat) (st:=fun i=>([(1,.ref 0 0 0 0),(16,.row 3 (l.map (fW k a b C))),(17,.lit (.int .i64 (l.length:Int))),(18,.lit (.int .i64 (i:Int)))],[some (jK 2 (M++dK k a b (l.take i))),none,some (jy (M++dK k a b (l.take i)))]))
  (inv:=fun i=>i≤l.length) (m:=fun i=>l.length-i) 0 [some 0,some 1,some 2] rfl (by simp only[akj,dK,List.flatMap_nil,ake];exact zM) zM (ajH _) ?_
 intro i hi
 by_cases hil:i<l.length
 · have hgi:l[i]? =some l[i]:=ajm hil
   have hget:l.getD i default=l[i]:=by rw[ajk,hgi];rfl
   have htk:=EG (k:=k) (a:=a) (b:=b) hgi;have hok:=hl l[i] (akA hil);have hsl:=nz (l:=l.take i) fun x hx=>hl x (ajM hx);have hsl2:(l.take i).length*(122+C*wd k a b)≤4*(122+64*16):=ajO (by rw[ajt];omega) (Nat.add_le_add_left (ajO hC.2 hwd.2) _);have hm2:(M++dK k a b (l.take i)).length<1000100050:=by rw[ajj];omega
   have e2:M++dK k a b (l.take (i+1))=M++dK k a b (l.take i)++numBits l[i].1 61++numBits l[i].2.1 61++cX (wd k a b) (l[i].2.2.map (fj k a b)):=by rw[htk];simp
   clear htk hsl hsl2 hgi;generalize l[i]=x at*
   generalize M++dK k a b (l.take i)=M1 at*
   obtain ⟨o1,o2,o3,o4⟩:=hok;have n1:=cz (L:=M1) (n:=x.1) (m:=61) zo zo zd zd (by show x.1<2^61;omega);have n2:=cz (L:=M1++numBits x.1 61) (n:=x.2.1) (m:=61) zo (by rw[ajj,aj];omega) zd zd (by show x.2.1<2^61;omega);rw[show Int.toNat 61=61 from rfl] at n1 n2
   have wr:=uz (n:=C) (w:=wd k a b) (N:=x.2.2.map (fj k a b)) (L:=M1++numBits x.1 61++numBits x.2.1 61) zo ⟨hwd.1,by omega⟩ (by rw[ajl];exact o3) (fun y hy=>by
    obtain ⟨s,_,rfl⟩:=akh.1 hy;exact kG k a b s) (by rw[ajj,ajj,aj,aj];omega)
   rw[←e2] at wr;refine br hget ?_;refine zW [some 0,some 2] [] n1 ?_;refine zW [some 0,some 4] [] n2 ?_;refine zW [some 0,some 5] [] wr ?_;refine aM (i+1) [some 0,some 1,some 6] hil zo
 · obtain rfl:i=l.length:=by omega
   rw[ajz];exact zE [some 0,some 1,some 2] hQ
theorem aQ {A T:List Bool} {n:Nat} (hn:n≤1048575):jE (A++(ai (n+1)++T)) A.length 0=((n:Int),A.length+(ai (n+1)).length,0):=by
 have g:=Cb (A:=A) (T:=T) (n:=n+1) zo zo;unfold jE;rw[if_pos rfl,g];dsimp only;rw[if_pos rfl,if_neg zo]
 congr 1
 omega
theorem fv {A T:List Bool} {k a b:Nat} (hk:k≤1048575) (ha:a≤1048575) (hb:b≤1048575):FO (A++(bj [k,a,b]++T)) A.length 0=(((k:Int),(a:Int),(b:Int)),A.length+(bj [k,a,b]).length,0):=by
 have e0:A++(bj [k,a,b]++T)=A++(ai (k+1)++(ai (a+1)++(ai (b+1)++T))):=by simp[bj]
 have e1:A++(ai (k+1)++(ai (a+1)++(ai (b+1)++T)))=(A++ai (k+1))++(ai (a+1)++(ai (b+1)++T)):=by simp
 have e2:A++(ai (k+1)++(ai (a+1)++(ai (b+1)++T)))=(A++ai (k+1)++ai (a+1))++(ai (b+1)++T):=by simp
 have n1:=aQ (A:=A) (T:=ai (a+1)++(ai (b+1)++T)) hk;have n2:=aQ (A:=A++ai (k+1)) (T:=ai (b+1)++T) ha;have n3:=aQ (A:=A++ai (k+1)++ai (a+1)) (T:=T) hb;rw[←e1] at n2;rw[←e2] at n3;rw[List.length_append] at n2;rw[List.length_append,List.length_append] at n3;rw[e0];unfold FO;rw[n1];dsimp only;rw[n2];dsimp only;rw[n3];have hl:(bj [k,a,b]).length=(ai (k+1)).length+(ai (a+1)).length+(ai (b+1)).length:=by simp[bj];omega
 rw[hl];simp only[aj8]
theorem np {k a b:Nat}:∀(l:List SR),cX (wd k a b) (l.map (fj k a b))=l.flatMap (cD k a b)
 | []=>rfl
 | s::l=>by
   rw[ajK,List.flatMap_cons,←np l,←nO (s:=s)]
   rfl
theorem kH {k a b:Nat} {R:List Bool} (h:aL k a b):∀(l:List SR) (A:List Bool),(∀s∈l,aP k a b s)→oL (A++(l.flatMap (cD k a b)++R)) k a b l.length A.length=(some l,A.length+(l.flatMap (cD k a b)).length,0)
 | [],A,_=>rfl
 | s::l,A,hw=>by
   have e0:A++((s::l).flatMap (cD k a b)++R)=A++(cD k a b s++(l.flatMap (cD k a b)++R)):=by simp
   have e1:A++(cD k a b s++(l.flatMap (cD k a b)++R))=(A++cD k a b s)++(l.flatMap (cD k a b)++R):=by simp
   have r1:=ix (A:=A) (R:=l.flatMap (cD k a b)++R) h (hw s alm);have ih:=kH (R:=R) h l (A++cD k a b s) (fun x hx=>hw x (akJ _ hx));have hlen:(A++cD k a b s).length=A.length+wd k a b:=by rw[ajj,dL];rfl
   rw[←e1,hlen] at ih;rw[e0,List.length_cons,kM,r1];dsimp only;rw[ih,List.flatMap_cons,List.length_append,dL];simp only[Option.map_some]
   congr 2
   unfold wd;omega
theorem EN {A R:List Bool} {k a b C:Nat} {r:RW} (h:aL k a b) (ok:bC k a b C r):tz (A++(Bf k a b r++R)) k a b C A.length=(some r,A.length+(Bf k a b r).length,0):=by
 obtain ⟨x,y,l⟩:=r;obtain ⟨o1,o2,o3,o4⟩:=ok;dsimp only at o1 o2 o3 o4;subst o3
 have hb:Bf k a b (x,y,l)=numBits x 61++(numBits y 61++l.flatMap (cD k a b)):=by
  unfold Bf;rw[np,ajq]
 have e0:A++(Bf k a b (x,y,l)++R)=A++(numBits x 61++(numBits y 61++(l.flatMap (cD k a b)++R))):=by rw[hb];simp
 have e1:A++(numBits x 61++(numBits y 61++(l.flatMap (cD k a b)++R)))=(A++numBits x 61)++(numBits y 61++(l.flatMap (cD k a b)++R)):=by simp
 have e2:A++(numBits x 61++(numBits y 61++(l.flatMap (cD k a b)++R)))=(A++numBits x 61++numBits y 61)++(l.flatMap (cD k a b)++R):=by simp
 have t1:=pK (A:=A) (B:=numBits x 61) (R:=numBits y 61++(l.flatMap (cD k a b)++R)) (aj _ _);have t2:=pK (A:=A++numBits x 61) (B:=numBits y 61) (R:=l.flatMap (cD k a b)++R) (aj _ _);have c:=kH (R:=R) h l (A++numBits x 61++numBits y 61) o4;rw[←e1,ajj,aj] at t2;have l2:(A++numBits x 61++numBits y 61).length=A.length+122:=by rw[ajj,ajj,aj,aj]
 rw[←e2,l2] at c;rw[e0]
 have hlen:A.length+122≤(A++(numBits x 61++(numBits y 61++(l.flatMap (cD k a b)++R)))).length:=by
  rw[e2,ajj,l2];omega
 unfold tz;rw[if_pos zo,if_pos hlen,t1,t2,aX,aX,ajL zo,ajL zo,if_pos ⟨o1,o2⟩,c,hb];simp only[aki,ajj,aj]
 congr 2
 omega
theorem r8 {k a b C:Nat} {R:List Bool} (h:aL k a b):∀(l:List RW) (A:List Bool),(∀r∈l,bC k a b C r)→jl (A++(dK k a b l++R)) k a b C l.length A.length=(some l,A.length+(dK k a b l).length,0)
 | [],A,_=>rfl
 | r::l,A,hw=>by
   have e0:A++(dK k a b (r::l)++R)=A++(Bf k a b r++(dK k a b l++R)):=by simp[dK]
   have e1:A++(Bf k a b r++(dK k a b l++R))=(A++Bf k a b r)++(dK k a b l++R):=by simp
   have r1:=EN (A:=A) (R:=dK k a b l++R) h (hw r alm);have ih:=r8 (R:=R) h l (A++Bf k a b r) (fun x hx=>hw x (akJ _ hx));rw[←e1,ajj] at ih;have hl:(dK k a b (r::l)).length=(Bf k a b r).length+(dK k a b l).length:=by simp[dK]
   rw[e0,List.length_cons,qh,r1];dsimp only;rw[ih,hl];simp only[Option.map_some]
   congr 2
   omega
theorem qH {A R:List Bool} {k a b C T:Nat} {l:List RW} (h:aL k a b) (hT:T≤1099511627776) (hw:∀r∈l,bC k a b C r):ZZ (A++(nX k a b l T++R)) l.length C k a b A.length=(some (l,T),A.length+(nX k a b l T).length,0):=by
 have e0:A++(nX k a b l T++R)=A++(cZ T++(dK k a b l++R)):=by simp[nX]
 have e1:A++(cZ T++(dK k a b l++R))=(A++cZ T)++(dK k a b l++R):=by simp
 have v:=vM (A:=A) (T:=dK k a b l++R) (n:=T) zo;have r:=r8 (R:=R) h l (A++cZ T) hw;rw[←e1,ajj] at r;have hl:(nX k a b l T).length=(cZ T).length+(dK k a b l).length:=by simp[nX]
 rw[e0];unfold ZZ;rw[v];dsimp only;rw[if_pos rfl,if_neg zo,r,hl];simp only[Option.map_some]
 congr 2
 omega
def Ox (x:Int×Int×Bool):List PV:=[.lit (.int .i64 x.1),.lit (.int .i64 x.2.1),.lit (.bool x.2.2)]
@[go_sem] theorem agb {x:Int×Int×Bool}:Ox x=[.lit (.int .i64 x.1),.lit (.int .i64 x.2.1),.lit (.bool x.2.2)]:=(rfl)
def p8 (x:Nat×Nat×Bool):List PV:=[.lit (.int .i64 (x.1:Int)),.lit (.int .i64 (x.2.1:Int)),.lit (.bool x.2.2)]
@[go_sem] theorem Qx {x:Nat×Nat×Bool}:p8 x=[.lit (.int .i64 (x.1:Int)),.lit (.int .i64 (x.2.1:Int)),.lit (.bool x.2.2)]:=(rfl)
theorem jF {α:Type} [Inhabited α] {l:List α} {i:Nat} {x:α} (h:l[i]? =some x):l.getD i default=x:=by rw[ajk,h];rfl
def qb (k a b:Nat) (l:List (Int×Int×Bool)):List (Nat×Nat×Bool):=if l=[] then [(0,0,false)] else(l.take 8).map (wi k a b)
def s8 (k a b:Nat) (S:List (Nat×Nat×Bool)) (i:Nat):List Nat:=(S.take i).map (fun s=>numOf (cD k a b s))++List.replicate (S.length-i) 0
theorem wk (k a b:Nat) (S:List (Nat×Nat×Bool)) {i:Nat} (hi:i≤S.length):(s8 k a b S i).length=S.length:=by
 unfold s8;rw[ajj,ajl,ajt,ajF];omega
theorem Bm (k a b:Nat) (S:List (Nat×Nat×Bool)) (i:Nat):∀x∈s8 k a b S i,x<2^wd k a b:=by
 intro x hx;unfold s8 at hx;rcases akU.1 hx with hx | hx
 · obtain ⟨s,_,rfl⟩:=akh.1 hx
   have:=dU (cD k a b s)
   rw[dL] at this;exact this
 · rw[(alk.1 hx).2]
   exact ajV zd
theorem vA (k a b:Nat) {S:List (Nat×Nat×Bool)} {i:Nat} {s:Nat×Nat×Bool} (h:S[i]? =some s):(s8 k a b S i).set i (numOf (cD k a b s))=s8 k a b S (i+1):=by
 have hi:i<S.length:=(akn.1 h).1;unfold s8;rw[List.set_append,if_neg (by simp;omega),ajl,ajt,akl zo,akz];obtain ⟨q,hq⟩:∃q,S.length-i=q+1:=⟨S.length-i-1,by omega⟩;rw[hq,akF,alp,ak7,h,show S.length-(i+1)=q by omega]
 simp
theorem Mn {k a b:Nat} {l:List (Int×Int×Bool)}:1≤(qb k a b l).length∧(qb k a b l).length≤8:=by
 unfold qb
 by_cases h:l=[]
 · rw[if_pos h];exact⟨ajp _,by decide⟩
 · rw[if_neg h,ajl,ajt]
   have:=alU.2 h
   omega
theorem nS {k a b:Nat} {l:List (Int×Int×Bool)}:∀s∈qb k a b l,aP k a b s:=by
 intro s hs;unfold qb at hs
 split at hs
 · rw[akf.1 hs]
   unfold aP
   split
   · exact⟨ajH _,ajH _,fun h=>by cases h⟩
   · exact⟨rfl,ajH _,fun h=>by cases h⟩
 · obtain ⟨x,_,rfl⟩:=akh.1 hs
   exact Db
set_option maxHeartbeats 4000000 in
theorem Ee {k a b:Nat} {l:List (Int×Int×Bool)} (h:GW k a b) (hl:l.length≤9223372036854775807):
 aA Tryz.prog 25 [pR k a b,.row 3 (l.map Ox)] [] (.tup [.ref 0 0 0 0,.row 3 ((qb k a b l).map p8),.lit (.bool true)])
  [some (cP 1 k a b),some (cC 2 (qb k a b l).length (wd k a b)),some (ch (qb k a b l).length (wd k a b) (aV (wd k a b) (s8 k a b (qb k a b l) (qb k a b l).length)))]:=by
 have hb:=ZP h;have hgood:=bO h;have wn:=fun s=>i9 (k:=k) (a:=a) (b:=b) (s:=s) hb.2 hb.1;refine zF Y6 Tryz.call25 Tryz.func25 [.tmp 4,.tmp 5,.tmp 6] fun Q hQ=>?_;refine ae ?_
 refine aR (X:=Nat) (st:=fun i=>([(1,.row 3 (l.map Ox)),(2,.ref 0 0 0 0),(7,.sl 1 3 0 i),(8,.lit (.int .i64 (i:Int)))],
  [some (.cells [.lit (.int .i64 (k:Int)),.lit (.int .i64 (a:Int)),.lit (.int .i64 (b:Int))]),some (.row 3 (((l.take i).map (wi k a b)).map p8))]))
  (inv:=fun i=>i≤l.length∧i≤8) (m:=fun i=>8-i) 0 [some 0,none] ⟨ajH _,ajH _⟩ ?_
 rintro i ⟨hi,hi8⟩
 by_cases hil:i<l.length
 · by_cases hil8:i<8
   · have hgi:l[i]? =some l[i]:=ajm hil
     have hget:=jF hgi;have wnx:=wn l[i];have htk:(l.take (i+1)).map (wi k a b)=(l.take i).map (wi k a b)++[wi k a b l[i]]:=by rw[ak7,hgi,akX];rfl
     have hml:((l.take i).map (wi k a b)).length=i:=by rw[ajl,ajt];omega
     generalize (l.take i).map (wi k a b)=M at*
     generalize wi k a b l[i]=r at*
     have st17:=ik (s:=r);refine br hget ?_;refine aB (wnx) rfl rfl ?_;refine br hget ?_;refine aB (st17) rfl rfl ?_;refine br hget ?_;refine aH (i+1) [some 0,some 3] rfl ?_ ?_ ⟨hil,hil8⟩ zo
     · dsimp only
       rw[htk,akX,List.map_singleton,Qx]
       (simp(disch:=(first | omega | (simp only[cQ,ajl,ajo,true_and,and_true];(try omega);done) | fail)) only[go_sem,Int.reduceEq,Int.reduceToNat,Nat.reduceAdd,Nat.reduceMul,Nat.reduceEqDiff, ↓reduceIte,true_and,and_true,and_self,ajE,ajz,ajp,V.lit.injEq,Value.int.injEq,Value.bool.injEq];try (first | omega | (simp;done) | (simp;omega)))
     · (simp(disch:=(first | omega | (simp only[cQ,ajl,ajo,true_and,and_true];(try omega);done) | fail)) only[go_sem,Int.reduceEq,Int.reduceToNat,Nat.reduceAdd,Nat.reduceMul,Nat.reduceEqDiff, ↓reduceIte,true_and,and_true,and_self,ajE,ajz,ajp,V.lit.injEq,Value.int.injEq,Value.bool.injEq];try (first | omega | (simp;done) | (simp;omega)))
   · have hie:i=8:=by omega
     have hS:qb k a b l=(l.take i).map (wi k a b):=by
      unfold qb;rw[if_neg (fun e=>by rw[e] at hil;simp at hil),hie]
     rw[←hS];have hSl:(qb k a b l).length=i:=by rw[hS,ajl,ajt];omega
     have hSw:=nS (k:=k) (a:=a) (b:=b) (l:=l);generalize qb k a b l=S at*
     have own:=kE (k:=k) (a:=a) (b:=b);have cn:=oe (n:=i) hgood zo
     have hz:ch i (wd k a b) 0=ch i (wd k a b) (aV (wd k a b) (s8 k a b S 0)):=by
      unfold s8;rw[akj];show _=ch i (wd k a b) (aV (wd k a b) (List.replicate _ 0));rw[gY]
     rw[hz] at cn;clear hz;rw[hSl] at hQ;refine br hSl ?_;refine aB (own) rfl rfl ?_;refine br hSl ?_;refine zW [] [] cn ?_
     refine aR (X:=Nat) (st:=fun j=>([(7,.row 3 (S.map p8)),(9,.ref 0 0 0 0),(52,.row 3 (S.map p8)),(53,.lit (.int .i64 (i:Int))),(54,.lit (.int .i64 (j:Int)))],
      [some (cP 1 k a b),some (cC 2 i (wd k a b)),some (ch i (wd k a b) (aV (wd k a b) (s8 k a b S j)))]))
      (inv:=fun j=>j≤i) (m:=fun j=>i-j) 0 [some 2,some 3,some 4] (ajH _) ?_
     intro j hj
     by_cases hjl:j<i
     · have hgj:S[j]? =some S[j]:=ajm zo
       have hget:=jF hgj;have hset:=vA k a b hgj;have st:=nI (n:=i) (i:=j) (N:=s8 k a b S j) (s:=S[j]) hgood (hSw _ (akA _)) zo hjl (by rw[wk k a b S zo,hSl]) (Bm k a b S j);rw[hset] at st;generalize S[j]=r at*
       refine br hget ?_;refine zW [some 0,some 1,some 2] [] st ?_;refine aM (j+1) [some 0,some 1,some 2] zo zo
     · obtain rfl:i=j:=by omega
       exact zE [some 0,some 1,some 2] hQ
 · have hie:i=l.length:=by omega
   by_cases h0:l=[]
   · subst h0
     obtain rfl:i=0:=by simpa using hie
     have hSr:(qb k a b []).map p8=dQ [.int .i64 0,.int .i64 0,.bool false] 1:=rfl;have hSl:(qb k a b []).length=1:=rfl;have hSw:=nS (k:=k) (a:=a) (b:=b) (l:=[]);generalize qb k a b []=S at*
     have own:=kE (k:=k) (a:=a) (b:=b);have cn:=oe (n:=1) hgood zo
     have hz:ch 1 (wd k a b) 0=ch 1 (wd k a b) (aV (wd k a b) (s8 k a b S 0)):=by
      unfold s8;rw[akj];show _=ch 1 (wd k a b) (aV (wd k a b) (List.replicate _ 0));rw[gY]
     rw[hz] at cn;clear hz;rw[hSl] at hQ;refine br hSl ?_;rw[←hSr];refine aB (own) rfl rfl ?_;refine br hSl ?_;refine zW [] [] cn ?_
     refine aR (X:=Nat) (st:=fun j=>([(7,.row 3 (S.map p8)),(9,.ref 0 0 0 0),(52,.row 3 (S.map p8)),(53,.lit (.int .i64 1)),(54,.lit (.int .i64 (j:Int)))],
      [some (cP 1 k a b),some (cC 2 1 (wd k a b)),some (ch 1 (wd k a b) (aV (wd k a b) (s8 k a b S j)))]))
      (inv:=fun j=>j≤1) (m:=fun j=>1-j) 0 [some 3,some 4,some 5] (ajH _) ?_
     intro j hj
     by_cases hjl:j<1
     · have hgj:S[j]? =some S[j]:=ajm zo
       have hget:=jF hgj;have hset:=vA k a b hgj;have st:=nI (n:=1) (i:=j) (N:=s8 k a b S j) (s:=S[j]) hgood (hSw _ (akA _)) zo hjl (by rw[wk k a b S zo,hSl]) (Bm k a b S j);rw[hset] at st;generalize S[j]=r at*
       refine ej hget hSl ?_;refine zW [some 0,some 1,some 2] [] st ?_;refine aM (j+1) [some 0,some 1,some 2] zo zo
     · obtain rfl:j=1:=by omega
       exact zE [some 0,some 1,some 2] hQ
   · have hS:qb k a b l=(l.take i).map (wi k a b):=by
      unfold qb;rw[if_neg h0,hie,ajz,ajy zo]
     rw[←hS];have hSl:(qb k a b l).length=i:=by rw[hS,ajl,ajt];omega
     have hi1:1≤i:=by have:=alU.2 h0;omega
     have hSw:=nS (k:=k) (a:=a) (b:=b) (l:=l);generalize qb k a b l=S at*
     have own:=kE (k:=k) (a:=a) (b:=b);have cn:=oe (n:=i) hgood zo
     have hz:ch i (wd k a b) 0=ch i (wd k a b) (aV (wd k a b) (s8 k a b S 0)):=by
      unfold s8;rw[akj];show _=ch i (wd k a b) (aV (wd k a b) (List.replicate _ 0));rw[gY]
     rw[hz] at cn;clear hz;rw[hSl] at hQ;refine br hSl ?_;refine aB (own) rfl rfl ?_;refine br hSl ?_;refine zW [] [] cn ?_
     refine aR (X:=Nat) (st:=fun j=>([(7,.row 3 (S.map p8)),(9,.ref 0 0 0 0),(52,.row 3 (S.map p8)),(53,.lit (.int .i64 (i:Int))),(54,.lit (.int .i64 (j:Int)))],
      [some (cP 1 k a b),some (cC 2 i (wd k a b)),some (ch i (wd k a b) (aV (wd k a b) (s8 k a b S j)))]))
      (inv:=fun j=>j≤i) (m:=fun j=>i-j) 0 [some 2,some 3,some 4] (ajH _) ?_
     intro j hj
     by_cases hjl:j<i
     · have hgj:S[j]? =some S[j]:=ajm zo
       have hget:=jF hgj;have hset:=vA k a b hgj;have st:=nI (n:=i) (i:=j) (N:=s8 k a b S j) (s:=S[j]) hgood (hSw _ (akA _)) zo hjl (by rw[wk k a b S zo,hSl]) (Bm k a b S j);rw[hset] at st;generalize S[j]=r at*
       refine br hget ?_;refine zW [some 0,some 1,some 2] [] st ?_;refine aM (j+1) [some 0,some 1,some 2] zo zo
     · obtain rfl:i=j:=by omega
       exact zE [some 0,some 1,some 2] hQ
end Go.Proofs.YtcnlmelpnflhnaaGreat
