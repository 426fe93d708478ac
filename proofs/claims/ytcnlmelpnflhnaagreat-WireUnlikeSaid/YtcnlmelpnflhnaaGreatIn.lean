import Derived.Test.YtcnlmelpnflhnaaGreatBo
namespace Go.Proofs.YtcnlmelpnflhnaaGreat
open Go.Eng Go.Vx
set_option linter.unusedSimpArgs false
set_option linter.unusedVariables false
set_option maxRecDepth 100000
def jz (k a b n:Nat) (l:List SR):V:=.agg [.lit (.int .i64 2),.lit (.int .i64 0),.lit (.int .i64 0),.lit (.int .i64 0),.lit (.int .i64 0),.lit (.int .i64 0),.lit (.bool false),kA k a b n (wd k a b) (aV (wd k a b) (l.map (fj k a b))),.lit (.pointer none),.lit (.pointer none),.lit (.pointer none)]
def l6 (M D S:Nat) (st:SS):V:=.agg [.lit (.int .i64 3),.lit (.int .i64 0),.lit (.int .i64 0),.lit (.int .i64 0),.lit (.int .i64 0),.lit (.int .i64 0),.lit (.bool false),.lit (.pointer none),I6 M D S st,.lit (.pointer none),.lit (.pointer none)]
def dP (R C k a b:Nat) (l:List RW) (T:Nat):V:=.agg [.lit (.int .i64 4),.lit (.int .i64 0),.lit (.int .i64 0),.lit (.int .i64 0),.lit (.int .i64 0),.lit (.int .i64 0),.lit (.bool false),.lit (.pointer none),.lit (.pointer none),nk R C k a b l T,.lit (.pointer none)]
def lW (K P C:Nat) (X:List (Nat×Nat)) (T:Nat):V:=.agg [.lit (.int .i64 5),.lit (.int .i64 0),.lit (.int .i64 0),.lit (.int .i64 0),.lit (.int .i64 0),.lit (.int .i64 0),.lit (.bool false),.lit (.pointer none),.lit (.pointer none),.lit (.pointer none),KC (K:Int) (P:Int) (C:Int) X T]
attribute [go_sem] jz l6 dP lW
theorem xI {R C k a b:Nat} {l:List RW} {T:Nat}:aA Tryz.prog 94 [nk R C k a b l T] [] (.agg [.lit (.int .i64 (R:Int)),.lit (.int .i64 (C:Int)),.lit (.int .i64 (k:Int)),.lit (.int .i64 (a:Int)),.lit (.int .i64 (b:Int))]) []:=by
 refine zF pl Tryz.call94 Tryz.func94 [.cell 2 88] fun Q hQ=>?_;exact zE [] hQ
def TJ:V→List V
 | .agg l=>l
 | _=> []
@[go_sem] theorem aeK {l:List V}:TJ (.agg l)=l:=(rfl)
theorem sO {k a b n:Nat} {l:List SR}:aA Tryz.prog 35 [jz k a b n l] [] (.lit (.bool true)) []:=by
 refine zF pl Tryz.call35 Tryz.func35 [.tmp 2] fun Q hQ=>?_;exact zE [] hQ
theorem wt {k a b n:Nat} {l:List SR}:aA Tryz.prog 9 [jz k a b n l] [] (.lit (.int .i64 0)) []:=by
 have g:=sO (k:=k) (a:=a) (b:=b) (n:=n) (l:=l);refine zF pl Tryz.call9 Tryz.func9 [.tmp 2] fun Q hQ=>?_;refine ae ?_;refine zC g ?_;exact ak [] hQ
theorem sS {M D S:Nat} {st:SS}:aA Tryz.prog 35 [l6 M D S st] [] (.lit (.bool true)) []:=by
 refine zF pl Tryz.call35 Tryz.func35 [.tmp 2] fun Q hQ=>?_;exact zE [] hQ
theorem uV {M D S:Nat} {st:SS}:aA Tryz.prog 9 [l6 M D S st] [] (.lit (.int .i64 0)) []:=by
 have g:=sS (M:=M) (D:=D) (S:=S) (st:=st);refine zF pl Tryz.call9 Tryz.func9 [.tmp 2] fun Q hQ=>?_;refine ae ?_;refine zC g ?_;exact ak [] hQ
theorem ib {R C k a b T:Nat} {l:List RW}:aA Tryz.prog 35 [dP R C k a b l T] [] (.lit (.bool true)) []:=by
 refine zF pl Tryz.call35 Tryz.func35 [.tmp 2] fun Q hQ=>?_;exact zE [] hQ
theorem vZ {R C k a b T:Nat} {l:List RW}:aA Tryz.prog 9 [dP R C k a b l T] [] (.lit (.int .i64 0)) []:=by
 have g:=ib (R:=R) (C:=C) (k:=k) (a:=a) (b:=b) (T:=T) (l:=l);refine zF pl Tryz.call9 Tryz.func9 [.tmp 2] fun Q hQ=>?_;refine ae ?_;refine zC g ?_;exact ak [] hQ
theorem qv {K P C T:Nat} {X:List (Nat×Nat)}:aA Tryz.prog 35 [lW K P C X T] [] (.lit (.bool true)) []:=by
 refine zF pl Tryz.call35 Tryz.func35 [.tmp 2] fun Q hQ=>?_;exact zE [] hQ
theorem vj {K P C T:Nat} {X:List (Nat×Nat)}:aA Tryz.prog 9 [lW K P C X T] [] (.lit (.int .i64 0)) []:=by
 have g:=qv (K:=K) (P:=P) (C:=C) (T:=T) (X:=X);refine zF pl Tryz.call9 Tryz.func9 [.tmp 2] fun Q hQ=>?_;refine ae ?_;refine zC g ?_;exact ak [] hQ
theorem Fb {k a b n:Nat} {l:List SR}:aA Tryz.prog 37 [jz k a b n l] [] (.row 1 ((nl [k,a,b,n]).map (ie .i64))) []:=by
 have o:=qj (k:=k) (a:=a) (b:=b);have pa:=Ey (k:=k) (a:=a) (b:=b) (n:=n) (w:=wd k a b) (X:=aV (wd k a b) (l.map (fj k a b)));have vl:=MR (n:=n) (w:=wd k a b) (L:=words (aZ n (wd k a b)) (aV (wd k a b) (l.map (fj k a b))));simp only[nl,ajK,ajQ,ie] at o;refine zF xb Tryz.call37 Tryz.func37 [.tmp 2] fun Q hQ=>?_;simp only[nl,ajK,ajQ,ie] at hQ;refine ae ?_;refine zC pa ?_;refine bI (o) ?_;refine ae ?_;refine zC vl ?_;exact ak [] hQ
theorem D9 {M D S:Nat} {st:SS}:aA Tryz.prog 37 [l6 M D S st] [] (.row 1 ((nl [M,D,S,st.1.length]).map (ie .i64))) []:=by
 have pa:=zi (M:=M) (D:=D) (S:=S) (st:=st);have ln:=Hb (M:=M) (D:=D) (S:=S) (st:=st);refine zF xb Tryz.call37 Tryz.func37 [.tmp 2] fun Q hQ=>?_;simp only[nl,ajK,ajQ,ie] at hQ;refine ae ?_;refine zC pa ?_;refine zC ln ?_;exact ak [] hQ
theorem Em {K P C:Nat} {X:List (Nat×Nat)} {T:Nat}:aA Tryz.prog 37 [lW K P C X T] [] (.row 1 ((nl [K,P,C]).map (ie .i64))) []:=by
 have pa:=Ba (K:=(K:Int)) (P:=(P:Int)) (C:=(C:Int)) (X:=X) (N:=T);refine zF xb Tryz.call37 Tryz.func37 [.tmp 2] fun Q hQ=>?_;simp only[nl,ajK,ajQ,ie] at hQ;refine ae ?_;refine zC pa ?_;exact ak [] hQ
theorem Fu {R C k a b:Nat} {l:List RW} {T:Nat}:aA Tryz.prog 37 [dP R C k a b l T] [] (.row 1 ((nl [R,C,k,a,b]).map (ie .i64))) []:=by
 have o:=qj (k:=k) (a:=a) (b:=b);have pa:=xI (R:=R) (C:=C) (k:=k) (a:=a) (b:=b) (l:=l) (T:=T);simp only[nl,ajK,ajQ,ie] at o;refine zF xb Tryz.call37 Tryz.func37 [.tmp 2] fun Q hQ=>?_;simp only[nl,ajK,ajQ,ie] at hQ;refine ae ?_;refine zC pa ?_;refine bI (o) ?_;exact zE [] hQ
set_option maxHeartbeats 2000000 in
theorem Lf {k a b:Nat} {s:Nat×Nat×Bool} (h:aL k a b) (w:aP k a b s):aA Tryz.prog 10 [uw k a b s] [] (.tup [.sl 0 1 0 ((iF (bc 1++bj [k,a,b]++cD k a b s)).length+4),.lit (.int .i64 0)]) [some (.row 1 ((nl (bV (iF (bc 1++bj [k,a,b]++cD k a b s)))).map (ie .u8)))]:=by
 have ck:=kF h w;have ns:=wJ (k:=k) (a:=a) (b:=b) (s:=s);have hN3:([k,a,b]:List Nat).length=3:=rfl
 have hNm:∀x∈([k,a,b]:List Nat),x≤1048576:=by
  intro x hx;simp only[ajC,aj5,or_false] at hx;rcases h with h | h | h | h<;>omega
 have n1:=cz (L:=[]) (n:=1) (m:=4) zd zd zd zd zd;have n2:=cz (L:=numBits 1 4) (n:=1) (m:=3) zd (by rw[aj];decide) zd zd zd;rw[akq] at n1;generalize [k,a,b]=N at*
 have hnl:=ay N;have hgl:=cu hNm;have hhl:=da 1;have hrl:=dL k a b s;have hwl:=AI h;have wr0:=fun(L:List Bool) (hL:L.length<1099511600000)=>oY (L:=L) h w hL
 have hbl:(bc 1++bj N++cD k a b s).length≤9000:=by
  rw[ajj,ajj];omega
 have hg0:(bc 1++bj N).length<1000000:=by rw[ajj];omega
 have wr:=wr0 (bc 1++bj N) zo;clear wr0
 have e0:numBits 1 4++numBits 1 3=bc 1++bj (N.take 0):=by
  rw[akj];show _=(numBits 1 4++numBits 1 3)++[];rw[ake]
 change aA _ _ _ _ _ [some (jK 2 (numBits 1 4++numBits 1 3)),none,some (jy (numBits 1 4++numBits 1 3))] at n2;rw[e0] at n2;refine zF pl Tryz.call10 Tryz.func10 [.tmp 2,.tmp 3] fun Q hQ=>?_;refine ae ?_;refine zC ck ?_;refine zW [some 1,none] [] n1 ?_;refine zW [some 1,some 3] [] n2 ?_;refine zC ns ?_
 refine aR (X:=Nat) (st:=fun i=>([(1,.ref 0 0 0 0),(5,.ref 1 0 0 0),(23,.row 1 ((nl N).map (ie .i64))),(24,.lit (.int .i64 3)),(25,.lit (.int .i64 (i:Int)))],
  [some (.cells (TJ (uw k a b s))),some (jK 2 (bc 1++bj (N.take i))),some (jy (bc 1++bj (N.take i)))]))
  (inv:=fun i=>i≤3) (m:=fun i=>3-i) 0 [some 0,some 1,some 4] (ajH _) ?_
 intro i hi
 by_cases hil:i<3
 · have hg:=bD N i
   have hx:=jx hNm i;have hgl2:=cu (N:=N.take i) fun x hx=>hNm x (ajM hx);have hti:(N.take i).length≤3:=by rw[ajt];omega
   have gm:=dV (L:=bc 1++bj (N.take i)) (n:=N.getD i 0+1) zo zo (by rw[ajj];omega);rw[ajq,←je zo] at gm;generalize N.getD i 0=x at*
   rw[show((x+1:Nat):Int)=(x:Int)+1 by omega] at gm;refine br hg ?_;refine zW [some 1,some 2] [] gm ?_;refine aM (i+1) [some 0,some 1,some 3] zo zo
 · obtain rfl:i=3:=by omega
   rw[ajy zo];have by_:=gZ (L:=bc 1++bj N++cD k a b s) zo;have sl:=kg (l:=iF (bc 1++bj N++cD k a b s)) (mT _) (by rw[gJ];omega);rw[si] at by_;refine ae ?_;refine zW [some 1,some 2] [] wr ?_;refine zW [some 1,some 3] [] by_ ?_;refine zW [] [] sl ?_;exact ak [some 4] hQ
set_option maxHeartbeats 2000000 in
theorem Mw {k a b n:Nat} {l:List SR} (h:aL k a b) (hn:n≤256) (hM:l.length=n):aA Tryz.prog 10 [jz k a b n l] [] (.tup [.sl 0 1 0 ((iF (bc 2++bj [k,a,b,n]++cX (wd k a b) (l.map (fj k a b)))).length+4),.lit (.int .i64 0)]) [some (.row 1 ((nl (bV (iF (bc 2++bj [k,a,b,n]++cX (wd k a b) (l.map (fj k a b)))))).map (ie .u8)))]:=by
 have ck:=wt (k:=k) (a:=a) (b:=b) (n:=n) (l:=l);have ns:=Fb (k:=k) (a:=a) (b:=b) (n:=n) (l:=l);have hN3:([k,a,b,n]:List Nat).length=4:=rfl
 have hNm:∀x∈([k,a,b,n]:List Nat),x≤1048576:=by
  intro x hx;simp only[ajC,aj5,or_false] at hx;rcases h with h | h | h | h<;>omega
 have n1:=cz (L:=[]) (n:=1) (m:=4) zd zd zd zd zd;have n2:=cz (L:=numBits 1 4) (n:=2) (m:=3) zd (by rw[aj];decide) zd zd zd;rw[akq] at n1;generalize [k,a,b,n]=N at*
 have hnl:=ay N;have hgl:=cu hNm;have hhl:=da 2;have hrl:=gU (wd k a b) (l.map (fj k a b));rw[ajl] at hrl;have hwd:=dN h;have hnw:l.length*wd k a b≤256*16:=ajO zo hwd.2
 have wr0:=fun(L:List Bool) (hL:L.length<1099511600000)=>uz (n:=n) (w:=wd k a b) (N:=l.map (fj k a b)) (L:=L) hn ⟨hwd.1,by omega⟩ (by rw[ajl];exact hM) (fun y hy=>by
  obtain ⟨s,_,rfl⟩:=akh.1 hy;exact kG k a b s) hL
 have hbl:(bc 2++bj N++cX (wd k a b) (l.map (fj k a b))).length≤9000:=by
  rw[ajj,ajj];omega
 have hg0:(bc 2++bj N).length<1000000:=by rw[ajj];omega
 have wr:=wr0 (bc 2++bj N) zo;clear wr0
 have e0:numBits 1 4++numBits 2 3=bc 2++bj (N.take 0):=by
  rw[akj];show _=(numBits 1 4++numBits 2 3)++[];rw[ake]
 change aA _ _ _ _ _ [some (jK 2 (numBits 1 4++numBits 2 3)),none,some (jy (numBits 1 4++numBits 2 3))] at n2;rw[e0] at n2;refine zF pl Tryz.call10 Tryz.func10 [.tmp 2,.tmp 3] fun Q hQ=>?_;refine ae ?_;refine zC ck ?_;refine zW [some 1,none] [] n1 ?_;refine zW [some 1,some 3] [] n2 ?_;refine zC ns ?_
 refine aR (X:=Nat) (st:=fun i=>([(1,.ref 0 0 0 0),(5,.ref 1 0 0 0),(23,.row 1 ((nl N).map (ie .i64))),(24,.lit (.int .i64 4)),(25,.lit (.int .i64 (i:Int)))],
  [some (.cells (TJ (jz k a b n l))),some (jK 2 (bc 2++bj (N.take i))),some (jy (bc 2++bj (N.take i)))]))
  (inv:=fun i=>i≤4) (m:=fun i=>4-i) 0 [some 0,some 1,some 4] (ajH _) ?_
 intro i hi
 by_cases hil:i<4
 · have hg:=bD N i
   have hx:=jx hNm i;have hgl2:=cu (N:=N.take i) fun x hx=>hNm x (ajM hx);have hti:(N.take i).length≤4:=by rw[ajt];omega
   have gm:=dV (L:=bc 2++bj (N.take i)) (n:=N.getD i 0+1) zo zo (by rw[ajj];omega);rw[ajq,←je zo] at gm;generalize N.getD i 0=x at*
   rw[show((x+1:Nat):Int)=(x:Int)+1 by omega] at gm;refine br hg ?_;refine zW [some 1,some 2] [] gm ?_;refine aM (i+1) [some 0,some 1,some 3] zo zo
 · obtain rfl:i=4:=by omega
   rw[ajy zo];have by_:=gZ (L:=bc 2++bj N++cX (wd k a b) (l.map (fj k a b))) zo;have sl:=kg (l:=iF (bc 2++bj N++cX (wd k a b) (l.map (fj k a b)))) (mT _) (by rw[gJ];omega);rw[si] at by_;refine ae ?_;refine zW [some 1,some 2] [] wr ?_;refine zW [some 1,some 3] [] by_ ?_;refine zW [] [] sl ?_;exact ak [some 4] hQ
set_option maxHeartbeats 2000000 in
theorem Kn {M D S:Nat} {st:SS} (hM:M≤16) (hD:D≤4) (hS:S≤8) (hX:st.1.length≤256) (hc:∀c∈st.1,c.1<2^M∧c.2<2^D) (hs:1≤st.2.1∧st.2.1≤8):aA Tryz.prog 10 [l6 M D S st] [] (.tup [.sl 0 1 0 ((iF (bc 3++bj [M,D,S,st.1.length]++ey M D st)).length+4),.lit (.int .i64 0)]) [some (.row 1 ((nl (bV (iF (bc 3++bj [M,D,S,st.1.length]++ey M D st)))).map (ie .u8)))]:=by
 have ck:=uV (M:=M) (D:=D) (S:=S) (st:=st);have ns:=D9 (M:=M) (D:=D) (S:=S) (st:=st);have hN3:([M,D,S,st.1.length]:List Nat).length=4:=rfl
 have hNm:∀x∈([M,D,S,st.1.length]:List Nat),x≤1048576:=by
  intro x hx;simp only[ajC,aj5,or_false] at hx;omega
 have n1:=cz (L:=[]) (n:=1) (m:=4) zd zd zd zd zd;have n2:=cz (L:=numBits 1 4) (n:=3) (m:=3) zd (by rw[aj];decide) zd zd zd;rw[akq] at n1;generalize [M,D,S,st.1.length]=N at*
 have hnl:=ay N;have hgl:=cu hNm;have hhl:=da 3;have hrl:=qg M D st;have hnw:st.1.length*(M+D)≤256*20:=ajO hX zo;have wr0:=fun(L:List Bool) (hL:L.length<1000000000)=>zN (M:=M) (D:=D) (S:=S) (st:=st) (L:=L) hM hD hX hc hs hL
 have hbl:(bc 3++bj N++ey M D st).length≤9000:=by
  rw[ajj,ajj];omega
 have hg0:(bc 3++bj N).length<1000000:=by rw[ajj];omega
 have wr:=wr0 (bc 3++bj N) zo;clear wr0
 have e0:numBits 1 4++numBits 3 3=bc 3++bj (N.take 0):=by
  rw[akj];show _=(numBits 1 4++numBits 3 3)++[];rw[ake]
 change aA _ _ _ _ _ [some (jK 2 (numBits 1 4++numBits 3 3)),none,some (jy (numBits 1 4++numBits 3 3))] at n2;rw[e0] at n2;refine zF pl Tryz.call10 Tryz.func10 [.tmp 2,.tmp 3] fun Q hQ=>?_;refine ae ?_;refine zC ck ?_;refine zW [some 1,none] [] n1 ?_;refine zW [some 1,some 3] [] n2 ?_;refine zC ns ?_
 refine aR (X:=Nat) (st:=fun i=>([(1,.ref 0 0 0 0),(5,.ref 1 0 0 0),(23,.row 1 ((nl N).map (ie .i64))),(24,.lit (.int .i64 4)),(25,.lit (.int .i64 (i:Int)))],
  [some (.cells (TJ (l6 M D S st))),some (jK 2 (bc 3++bj (N.take i))),some (jy (bc 3++bj (N.take i)))]))
  (inv:=fun i=>i≤4) (m:=fun i=>4-i) 0 [some 0,some 1,some 4] (ajH _) ?_
 intro i hi
 by_cases hil:i<4
 · have hg:=bD N i
   have hx:=jx hNm i;have hgl2:=cu (N:=N.take i) fun x hx=>hNm x (ajM hx);have hti:(N.take i).length≤4:=by rw[ajt];omega
   have gm:=dV (L:=bc 3++bj (N.take i)) (n:=N.getD i 0+1) zo zo (by rw[ajj];omega);rw[ajq,←je zo] at gm;generalize N.getD i 0=x at*
   rw[show((x+1:Nat):Int)=(x:Int)+1 by omega] at gm;refine br hg ?_;refine zW [some 1,some 2] [] gm ?_;refine aM (i+1) [some 0,some 1,some 3] zo zo
 · obtain rfl:i=4:=by omega
   rw[ajy zo];have by_:=gZ (L:=bc 3++bj N++ey M D st) zo;have sl:=kg (l:=iF (bc 3++bj N++ey M D st)) (mT _) (by rw[gJ];omega);rw[si] at by_;refine ae ?_;refine zW [some 1,some 2] [] wr ?_;refine zW [some 1,some 3] [] by_ ?_;refine zW [] [] sl ?_;exact ak [some 4] hQ
set_option maxHeartbeats 2000000 in
theorem LQ {R C k a b T:Nat} {l:List RW} (h:aL k a b) (hC:1≤C∧C≤64) (hR:R≤4) (hl1:l.length≤4) (hl:∀r∈l,bC k a b C r) (hT:T≤1099511627776):aA Tryz.prog 10 [dP R C k a b l T] [] (.tup [.sl 0 1 0 ((iF (bc 4++bj [R,C,k,a,b]++nX k a b l T)).length+4),.lit (.int .i64 0)]) [some (.row 1 ((nl (bV (iF (bc 4++bj [R,C,k,a,b]++nX k a b l T)))).map (ie .u8)))]:=by
 have ck:=vZ (R:=R) (C:=C) (k:=k) (a:=a) (b:=b) (T:=T) (l:=l);have ns:=Fu (R:=R) (C:=C) (k:=k) (a:=a) (b:=b) (T:=T) (l:=l);have hN3:([R,C,k,a,b]:List Nat).length=5:=rfl
 have hNm:∀x∈([R,C,k,a,b]:List Nat),x≤1048576:=by
  intro x hx;simp only[ajC,aj5,or_false] at hx;rcases h with h | h | h | h<;>omega
 have n1:=cz (L:=[]) (n:=1) (m:=4) zd zd zd zd zd;have n2:=cz (L:=numBits 1 4) (n:=4) (m:=3) zd (by rw[aj];decide) zd zd zd;rw[akq] at n1;generalize [R,C,k,a,b]=N at*
 have hnl:=ay N;have hgl:=cu hNm;have hhl:=da 4;have hrl:(nX k a b l T).length=(cZ T).length+l.length*(122+C*wd k a b):=by unfold nX;rw[ajj,nz hl]
 have hvl:=rE hT;have hwd:=dN h;have hnw:l.length*(122+C*wd k a b)≤4*(122+64*16):=ajO hl1 (Nat.add_le_add_left (ajO hC.2 hwd.2) _);have wr0:=fun(L:List Bool) (hL:L.length<1000000000)=>xf (R:=R) (C:=C) (k:=k) (a:=a) (b:=b) (T:=T) (l:=l) (L:=L) h hC hl1 hl hT hL
 have hbl:(bc 4++bj N++nX k a b l T).length≤9000:=by
  rw[ajj,ajj];omega
 have hg0:(bc 4++bj N).length<1000000:=by rw[ajj];omega
 have wr:=wr0 (bc 4++bj N) zo;clear wr0
 have e0:numBits 1 4++numBits 4 3=bc 4++bj (N.take 0):=by
  rw[akj];show _=(numBits 1 4++numBits 4 3)++[];rw[ake]
 change aA _ _ _ _ _ [some (jK 2 (numBits 1 4++numBits 4 3)),none,some (jy (numBits 1 4++numBits 4 3))] at n2;rw[e0] at n2;refine zF pl Tryz.call10 Tryz.func10 [.tmp 2,.tmp 3] fun Q hQ=>?_;refine ae ?_;refine zC ck ?_;refine zW [some 1,none] [] n1 ?_;refine zW [some 1,some 3] [] n2 ?_;refine zC ns ?_
 refine aR (X:=Nat) (st:=fun i=>([(1,.ref 0 0 0 0),(5,.ref 1 0 0 0),(23,.row 1 ((nl N).map (ie .i64))),(24,.lit (.int .i64 5)),(25,.lit (.int .i64 (i:Int)))],
  [some (.cells (TJ (dP R C k a b l T))),some (jK 2 (bc 4++bj (N.take i))),some (jy (bc 4++bj (N.take i)))]))
  (inv:=fun i=>i≤5) (m:=fun i=>5-i) 0 [some 0,some 1,some 4] (ajH _) ?_
 intro i hi
 by_cases hil:i<5
 · have hg:=bD N i
   have hx:=jx hNm i;have hgl2:=cu (N:=N.take i) fun x hx=>hNm x (ajM hx);have hti:(N.take i).length≤5:=by rw[ajt];omega
   have gm:=dV (L:=bc 4++bj (N.take i)) (n:=N.getD i 0+1) zo zo (by rw[ajj];omega);rw[ajq,←je zo] at gm;generalize N.getD i 0=x at*
   rw[show((x+1:Nat):Int)=(x:Int)+1 by omega] at gm;refine br hg ?_;refine zW [some 1,some 2] [] gm ?_;refine aM (i+1) [some 0,some 1,some 3] zo zo
 · obtain rfl:i=5:=by omega
   rw[ajy zo];have by_:=gZ (L:=bc 4++bj N++nX k a b l T) zo;have sl:=kg (l:=iF (bc 4++bj N++nX k a b l T)) (mT _) (by rw[gJ];omega);rw[si] at by_;refine ae ?_;refine zW [some 1,some 2] [] wr ?_;refine zW [some 1,some 3] [] by_ ?_;refine zW [] [] sl ?_;exact ak [some 4] hQ
set_option maxHeartbeats 2000000 in
theorem ME {K P C T:Nat} {X:List (Nat×Nat)} (hK:K≤8) (hP:P≤8) (hC:C≤16) (hX:X.length≤16) (hk:∀x∈X,x.1<2305843009213693951∧x.2≤1048576) (h1:T=0∨∀x∈X,1≤x.2) (hT:T≤1048576):aA Tryz.prog 10 [lW K P C X T] [] (.tup [.sl 0 1 0 ((iF (bc 5++bj [K,P,C]++eE X T)).length+4),.lit (.int .i64 0)]) [some (.row 1 ((nl (bV (iF (bc 5++bj [K,P,C]++eE X T)))).map (ie .u8)))]:=by
 have ck:=vj (K:=K) (P:=P) (C:=C) (T:=T) (X:=X);have ns:=Em (K:=K) (P:=P) (C:=C) (T:=T) (X:=X);have hN3:([K,P,C]:List Nat).length=3:=rfl
 have hNm:∀x∈([K,P,C]:List Nat),x≤1048576:=by
  intro x hx;simp only[ajC,aj5,or_false] at hx;omega
 have n1:=cz (L:=[]) (n:=1) (m:=4) zd zd zd zd zd;have n2:=cz (L:=numBits 1 4) (n:=5) (m:=3) zd (by rw[aj];decide) zd zd zd;rw[akq] at n1;generalize [K,P,C]=N at*
 have hnl:=ay N;have hgl:=cu hNm;have hhl:=da 5
 have hrl:(eE X T).length≤24+16*102:=by
  have hv:=mL hT;unfold eE;rw[ajj]
  split
  · rw[ajA];omega
  · rename_i h0
    have:=qe (X:=X) fun x hx=>⟨(h1.resolve_left h0) x hx,(hk x hx).2⟩
    have h2:X.length*102≤16*102:=ajP _ hX;omega
 have wr0:=fun(L:List Bool) (hL:L.length<1000000000)=>Ae (K:=(K:Int)) (P:=(P:Int)) (C:=(C:Int)) (X:=X) (N:=T) (L:=L) zo hk h1 hT hL
 have hbl:(bc 5++bj N++eE X T).length≤9000:=by
  rw[ajj,ajj];omega
 have hg0:(bc 5++bj N).length<1000000:=by rw[ajj];omega
 have wr:=wr0 (bc 5++bj N) zo;clear wr0
 have e0:numBits 1 4++numBits 5 3=bc 5++bj (N.take 0):=by
  rw[akj];show _=(numBits 1 4++numBits 5 3)++[];rw[ake]
 change aA _ _ _ _ _ [some (jK 2 (numBits 1 4++numBits 5 3)),none,some (jy (numBits 1 4++numBits 5 3))] at n2;rw[e0] at n2;refine zF pl Tryz.call10 Tryz.func10 [.tmp 2,.tmp 3] fun Q hQ=>?_;refine ae ?_;refine zC ck ?_;refine zW [some 1,none] [] n1 ?_;refine zW [some 1,some 3] [] n2 ?_;refine zC ns ?_
 refine aR (X:=Nat) (st:=fun i=>([(1,.ref 0 0 0 0),(5,.ref 1 0 0 0),(23,.row 1 ((nl N).map (ie .i64))),(24,.lit (.int .i64 3)),(25,.lit (.int .i64 (i:Int)))],
  [some (.cells (TJ (lW K P C X T))),some (jK 2 (bc 5++bj (N.take i))),some (jy (bc 5++bj (N.take i)))]))
  (inv:=fun i=>i≤3) (m:=fun i=>3-i) 0 [some 0,some 1,some 4] (ajH _) ?_
 intro i hi
 by_cases hil:i<3
 · have hg:=bD N i
   have hx:=jx hNm i;have hgl2:=cu (N:=N.take i) fun x hx=>hNm x (ajM hx);have hti:(N.take i).length≤3:=by rw[ajt];omega
   have gm:=dV (L:=bc 5++bj (N.take i)) (n:=N.getD i 0+1) zo zo (by rw[ajj];omega);rw[ajq,←je zo] at gm;generalize N.getD i 0=x at*
   rw[show((x+1:Nat):Int)=(x:Int)+1 by omega] at gm;refine br hg ?_;refine zW [some 1,some 2] [] gm ?_;refine aM (i+1) [some 0,some 1,some 3] zo zo
 · obtain rfl:i=3:=by omega
   rw[ajy zo];have by_:=gZ (L:=bc 5++bj N++eE X T) zo;have sl:=kg (l:=iF (bc 5++bj N++eE X T)) (mT _) (by rw[gJ];omega);rw[si] at by_;refine ae ?_;refine zW [some 1,some 2] [] wr ?_;refine zW [some 1,some 3] [] by_ ?_;refine zW [] [] sl ?_;exact ak [some 4] hQ
end Go.Proofs.YtcnlmelpnflhnaaGreat
