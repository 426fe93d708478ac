import Derived.Test.YtcnlmelpnflhnaaGreatBi
namespace Go.Proofs.YtcnlmelpnflhnaaGreat
open Go.Eng Go.Vx
set_option linter.unusedSimpArgs false
set_option linter.unusedVariables false
set_option maxRecDepth 100000
def oY (k a b n:Nat) (l:List SR):V:=.agg [.lit (.int .i64 2),.lit (.int .i64 0),.lit (.int .i64 0),.lit (.int .i64 0),.lit (.int .i64 0),.lit (.int .i64 0),.lit (.bool false),kp k a b n (wd k a b) (bF (wd k a b) (l.map (jx k a b))),.lit (.pointer none),.lit (.pointer none),.lit (.pointer none)]
def qg (M D S:Nat) (st:SS):V:=.agg [.lit (.int .i64 3),.lit (.int .i64 0),.lit (.int .i64 0),.lit (.int .i64 0),.lit (.int .i64 0),.lit (.int .i64 0),.lit (.bool false),.lit (.pointer none),G1 M D S st,.lit (.pointer none),.lit (.pointer none)]
def pB (R C k a b:Nat) (l:List RW) (T:Nat):V:=.agg [.lit (.int .i64 4),.lit (.int .i64 0),.lit (.int .i64 0),.lit (.int .i64 0),.lit (.int .i64 0),.lit (.int .i64 0),.lit (.bool false),.lit (.pointer none),.lit (.pointer none),rB R C k a b l T,.lit (.pointer none)]
def oU (K P C:Nat) (X:List (Nat×Nat)) (T:Nat):V:=.agg [.lit (.int .i64 5),.lit (.int .i64 0),.lit (.int .i64 0),.lit (.int .i64 0),.lit (.int .i64 0),.lit (.int .i64 0),.lit (.bool false),.lit (.pointer none),.lit (.pointer none),.lit (.pointer none),Ib (K:Int) (P:Int) (C:Int) X T]
attribute [go_sem] oY qg pB oU
theorem vC {R C k a b:Nat} {l:List RW} {T:Nat}:aC Tryz.prog 94 [rB R C k a b l T] [] (.agg [.lit (.int .i64 (R:Int)),.lit (.int .i64 (C:Int)),.lit (.int .i64 (k:Int)),.lit (.int .i64 (a:Int)),.lit (.int .i64 (b:Int))]) []:=by
 refine zF pl Tryz.call94 Tryz.func94 [.cell 2 88] fun Q hQ=>?_;exact zE [] hQ
def QG:V→List V
 | .agg l=>l
 | _=> []
@[go_sem] theorem abn {l:List V}:QG (.agg l)=l:=(rfl)
theorem zu {k a b n:Nat} {l:List SR}:aC Tryz.prog 35 [oY k a b n l] [] (.lit (.bool true)) []:=by
 refine zF pl Tryz.call35 Tryz.func35 [.tmp 2] fun Q hQ=>?_;exact zE [] hQ
theorem AY {k a b n:Nat} {l:List SR}:aC Tryz.prog 9 [oY k a b n l] [] (.lit (.int .i64 0)) []:=by
 have g:=zu (k:=k) (a:=a) (b:=b) (n:=n) (l:=l);refine zF pl Tryz.call9 Tryz.func9 [.tmp 2] fun Q hQ=>?_;refine ae ?_;refine zC g ?_;exact ak [] hQ
theorem zy {M D S:Nat} {st:SS}:aC Tryz.prog 35 [qg M D S st] [] (.lit (.bool true)) []:=by
 refine zF pl Tryz.call35 Tryz.func35 [.tmp 2] fun Q hQ=>?_;exact zE [] hQ
theorem zH {M D S:Nat} {st:SS}:aC Tryz.prog 9 [qg M D S st] [] (.lit (.int .i64 0)) []:=by
 have g:=zy (M:=M) (D:=D) (S:=S) (st:=st);refine zF pl Tryz.call9 Tryz.func9 [.tmp 2] fun Q hQ=>?_;refine ae ?_;refine zC g ?_;exact ak [] hQ
theorem xo {R C k a b T:Nat} {l:List RW}:aC Tryz.prog 35 [pB R C k a b l T] [] (.lit (.bool true)) []:=by
 refine zF pl Tryz.call35 Tryz.func35 [.tmp 2] fun Q hQ=>?_;exact zE [] hQ
theorem AG {R C k a b T:Nat} {l:List RW}:aC Tryz.prog 9 [pB R C k a b l T] [] (.lit (.int .i64 0)) []:=by
 have g:=xo (R:=R) (C:=C) (k:=k) (a:=a) (b:=b) (T:=T) (l:=l);refine zF pl Tryz.call9 Tryz.func9 [.tmp 2] fun Q hQ=>?_;refine ae ?_;refine zC g ?_;exact ak [] hQ
theorem xn {K P C T:Nat} {X:List (Nat×Nat)}:aC Tryz.prog 35 [oU K P C X T] [] (.lit (.bool true)) []:=by
 refine zF pl Tryz.call35 Tryz.func35 [.tmp 2] fun Q hQ=>?_;exact zE [] hQ
theorem zQ {K P C T:Nat} {X:List (Nat×Nat)}:aC Tryz.prog 9 [oU K P C X T] [] (.lit (.int .i64 0)) []:=by
 have g:=xn (K:=K) (P:=P) (C:=C) (T:=T) (X:=X);refine zF pl Tryz.call9 Tryz.func9 [.tmp 2] fun Q hQ=>?_;refine ae ?_;refine zC g ?_;exact ak [] hQ
theorem CZ {k a b n:Nat} {l:List SR}:aC Tryz.prog 37 [oY k a b n l] [] (.row 1 ((nl [k,a,b,n]).map (ie .i64))) []:=by
 have o:=oZ (k:=k) (a:=a) (b:=b);have pa:=Ck (k:=k) (a:=a) (b:=b) (n:=n) (w:=wd k a b) (X:=bF (wd k a b) (l.map (jx k a b)));have vl:=Kk (n:=n) (w:=wd k a b) (L:=words (aZ n (wd k a b)) (bF (wd k a b) (l.map (jx k a b))));simp only[nl,agR,ag2,ie] at o;refine zF uT Tryz.call37 Tryz.func37 [.tmp 2] fun Q hQ=>?_;simp only[nl,agR,ag2,ie] at hQ;refine ae ?_;refine zC pa ?_;refine dB (o) ?_;refine ae ?_;refine zC vl ?_;exact ak [] hQ
theorem BS {M D S:Nat} {st:SS}:aC Tryz.prog 37 [qg M D S st] [] (.row 1 ((nl [M,D,S,st.1.length]).map (ie .i64))) []:=by
 have pa:=xi (M:=M) (D:=D) (S:=S) (st:=st);have ln:=E3 (M:=M) (D:=D) (S:=S) (st:=st);refine zF uT Tryz.call37 Tryz.func37 [.tmp 2] fun Q hQ=>?_;simp only[nl,agR,ag2,ie] at hQ;refine ae ?_;refine zC pa ?_;refine zC ln ?_;exact ak [] hQ
theorem B8 {K P C:Nat} {X:List (Nat×Nat)} {T:Nat}:aC Tryz.prog 37 [oU K P C X T] [] (.row 1 ((nl [K,P,C]).map (ie .i64))) []:=by
 have pa:=yL (K:=(K:Int)) (P:=(P:Int)) (C:=(C:Int)) (X:=X) (N:=T);refine zF uT Tryz.call37 Tryz.func37 [.tmp 2] fun Q hQ=>?_;simp only[nl,agR,ag2,ie] at hQ;refine ae ?_;refine zC pa ?_;exact ak [] hQ
theorem Dm {R C k a b:Nat} {l:List RW} {T:Nat}:aC Tryz.prog 37 [pB R C k a b l T] [] (.row 1 ((nl [R,C,k,a,b]).map (ie .i64))) []:=by
 have o:=oZ (k:=k) (a:=a) (b:=b);have pa:=vC (R:=R) (C:=C) (k:=k) (a:=a) (b:=b) (l:=l) (T:=T);simp only[nl,agR,ag2,ie] at o;refine zF uT Tryz.call37 Tryz.func37 [.tmp 2] fun Q hQ=>?_;simp only[nl,agR,ag2,ie] at hQ;refine ae ?_;refine zC pa ?_;refine dB (o) ?_;exact zE [] hQ
set_option maxHeartbeats 2000000 in
theorem IH {k a b:Nat} {s:Nat×Nat×Bool} (h:aT k a b) (w:aP k a b s):aC Tryz.prog 10 [CL k a b s] [] (.tup [.sl 0 1 0 ((jF (bI 1++bQ [k,a,b]++cW k a b s)).length+4),.lit (.int .i64 0)]) [some (.row 1 ((nl (cU (jF (bI 1++bQ [k,a,b]++cW k a b s)))).map (ie .u8)))]:=by
 have ck:=mh h w;have ns:=uz (k:=k) (a:=a) (b:=b) (s:=s);have hN3:([k,a,b]:List Nat).length=3:=rfl
 have hNm:∀x∈([k,a,b]:List Nat),x≤1048576:=by
  intro x hx;simp only[agG,ahd,or_false] at hx;rcases h with h | h | h | h<;>omega
 have n1:=bW (L:=[]) (n:=1) (m:=4) zd zd zd zd zd;have n2:=bW (L:=numBits 1 4) (n:=1) (m:=3) zd (by rw[ai];decide) zd zd zd;rw[aht] at n1;generalize [k,a,b]=N at*
 have hnl:=aD N;have hgl:=cy hNm;have hhl:=eo 1;have hrl:=dN k a b s;have hwl:=yr h;have wr0:=fun(L:List Bool) (hL:L.length<1099511600000)=>nN (L:=L) h w hL
 have hbl:(bI 1++bQ N++cW k a b s).length≤9000:=by
  rw[agn,agn];omega
 have hg0:(bI 1++bQ N).length<1000000:=by rw[agn];omega
 have wr:=wr0 (bI 1++bQ N) zo;clear wr0
 have e0:numBits 1 4++numBits 1 3=bI 1++bQ (N.take 0):=by
  rw[ahk];show _=(numBits 1 4++numBits 1 3)++[];rw[ahj]
 change aC _ _ _ _ _ [some (jf 2 (numBits 1 4++numBits 1 3)),none,some (iY (numBits 1 4++numBits 1 3))] at n2;rw[e0] at n2;refine zF pl Tryz.call10 Tryz.func10 [.tmp 2,.tmp 3] fun Q hQ=>?_;refine ae ?_;refine zC ck ?_;refine zW [some 1,none] [] n1 ?_;refine zW [some 1,some 3] [] n2 ?_;refine zC ns ?_
 refine aU (X:=Nat) (st:=fun i=>([(1,.ref 0 0 0 0),(5,.ref 1 0 0 0),(23,.row 1 ((nl N).map (ie .i64))),(24,.lit (.int .i64 3)),(25,.lit (.int .i64 (i:Int)))],
  [some (.cells (QG (CL k a b s))),some (jf 2 (bI 1++bQ (N.take i))),some (iY (bI 1++bQ (N.take i)))]))
  (inv:=fun i=>i≤3) (m:=fun i=>3-i) 0 [some 0,some 1,some 4] (agM _) ?_
 intro i hi
 by_cases hil:i<3
 · have hg:=bg N i
   have hx:=iX hNm i;have hgl2:=cy (N:=N.take i) fun x hx=>hNm x (ag5 hx);have hti:(N.take i).length≤3:=by rw[agz];omega
   have gm:=dC (L:=bI 1++bQ (N.take i)) (n:=N.getD i 0+1) zo zo (by rw[agn];omega);rw[agw,←iG zo] at gm;generalize N.getD i 0=x at*
   rw[show((x+1:Nat):Int)=(x:Int)+1 by omega] at gm;refine bh hg ?_;refine zW [some 1,some 2] [] gm ?_;refine aO (i+1) [some 0,some 1,some 3] zo zo
 · obtain rfl:i=3:=by omega
   rw[agB zo];have by_:=gk (L:=bI 1++bQ N++cW k a b s) zo;have sl:=jH (l:=jF (bI 1++bQ N++cW k a b s)) (lM _) (by rw[fV];omega);rw[qD] at by_;refine ae ?_;refine zW [some 1,some 2] [] wr ?_;refine zW [some 1,some 3] [] by_ ?_;refine zW [] [] sl ?_;exact ak [some 4] hQ
set_option maxHeartbeats 2000000 in
theorem JY {k a b n:Nat} {l:List SR} (h:aT k a b) (hn:n≤256) (hM:l.length=n):aC Tryz.prog 10 [oY k a b n l] [] (.tup [.sl 0 1 0 ((jF (bI 2++bQ [k,a,b,n]++cQ (wd k a b) (l.map (jx k a b)))).length+4),.lit (.int .i64 0)]) [some (.row 1 ((nl (cU (jF (bI 2++bQ [k,a,b,n]++cQ (wd k a b) (l.map (jx k a b)))))).map (ie .u8)))]:=by
 have ck:=AY (k:=k) (a:=a) (b:=b) (n:=n) (l:=l);have ns:=CZ (k:=k) (a:=a) (b:=b) (n:=n) (l:=l);have hN3:([k,a,b,n]:List Nat).length=4:=rfl
 have hNm:∀x∈([k,a,b,n]:List Nat),x≤1048576:=by
  intro x hx;simp only[agG,ahd,or_false] at hx;rcases h with h | h | h | h<;>omega
 have n1:=bW (L:=[]) (n:=1) (m:=4) zd zd zd zd zd;have n2:=bW (L:=numBits 1 4) (n:=2) (m:=3) zd (by rw[ai];decide) zd zd zd;rw[aht] at n1;generalize [k,a,b,n]=N at*
 have hnl:=aD N;have hgl:=cy hNm;have hhl:=eo 2;have hrl:=iF (wd k a b) (l.map (jx k a b));rw[agr] at hrl;have hwd:=eC h;have hnw:l.length*wd k a b≤256*16:=agQ zo hwd.2
 have wr0:=fun(L:List Bool) (hL:L.length<1099511600000)=>sL (n:=n) (w:=wd k a b) (N:=l.map (jx k a b)) (L:=L) hn ⟨hwd.1,by omega⟩ (by rw[agr];exact hM) (fun y hy=>by
  obtain ⟨s,_,rfl⟩:=aho.1 hy;exact lA k a b s) hL
 have hbl:(bI 2++bQ N++cQ (wd k a b) (l.map (jx k a b))).length≤9000:=by
  rw[agn,agn];omega
 have hg0:(bI 2++bQ N).length<1000000:=by rw[agn];omega
 have wr:=wr0 (bI 2++bQ N) zo;clear wr0
 have e0:numBits 1 4++numBits 2 3=bI 2++bQ (N.take 0):=by
  rw[ahk];show _=(numBits 1 4++numBits 2 3)++[];rw[ahj]
 change aC _ _ _ _ _ [some (jf 2 (numBits 1 4++numBits 2 3)),none,some (iY (numBits 1 4++numBits 2 3))] at n2;rw[e0] at n2;refine zF pl Tryz.call10 Tryz.func10 [.tmp 2,.tmp 3] fun Q hQ=>?_;refine ae ?_;refine zC ck ?_;refine zW [some 1,none] [] n1 ?_;refine zW [some 1,some 3] [] n2 ?_;refine zC ns ?_
 refine aU (X:=Nat) (st:=fun i=>([(1,.ref 0 0 0 0),(5,.ref 1 0 0 0),(23,.row 1 ((nl N).map (ie .i64))),(24,.lit (.int .i64 4)),(25,.lit (.int .i64 (i:Int)))],
  [some (.cells (QG (oY k a b n l))),some (jf 2 (bI 2++bQ (N.take i))),some (iY (bI 2++bQ (N.take i)))]))
  (inv:=fun i=>i≤4) (m:=fun i=>4-i) 0 [some 0,some 1,some 4] (agM _) ?_
 intro i hi
 by_cases hil:i<4
 · have hg:=bg N i
   have hx:=iX hNm i;have hgl2:=cy (N:=N.take i) fun x hx=>hNm x (ag5 hx);have hti:(N.take i).length≤4:=by rw[agz];omega
   have gm:=dC (L:=bI 2++bQ (N.take i)) (n:=N.getD i 0+1) zo zo (by rw[agn];omega);rw[agw,←iG zo] at gm;generalize N.getD i 0=x at*
   rw[show((x+1:Nat):Int)=(x:Int)+1 by omega] at gm;refine bh hg ?_;refine zW [some 1,some 2] [] gm ?_;refine aO (i+1) [some 0,some 1,some 3] zo zo
 · obtain rfl:i=4:=by omega
   rw[agB zo];have by_:=gk (L:=bI 2++bQ N++cQ (wd k a b) (l.map (jx k a b))) zo;have sl:=jH (l:=jF (bI 2++bQ N++cQ (wd k a b) (l.map (jx k a b)))) (lM _) (by rw[fV];omega);rw[qD] at by_;refine ae ?_;refine zW [some 1,some 2] [] wr ?_;refine zW [some 1,some 3] [] by_ ?_;refine zW [] [] sl ?_;exact ak [some 4] hQ
set_option maxHeartbeats 2000000 in
theorem H0 {M D S:Nat} {st:SS} (hM:M≤16) (hD:D≤4) (hS:S≤8) (hX:st.1.length≤256) (hc:∀c∈st.1,c.1<2^M∧c.2<2^D) (hs:1≤st.2.1∧st.2.1≤8):aC Tryz.prog 10 [qg M D S st] [] (.tup [.sl 0 1 0 ((jF (bI 3++bQ [M,D,S,st.1.length]++ey M D st)).length+4),.lit (.int .i64 0)]) [some (.row 1 ((nl (cU (jF (bI 3++bQ [M,D,S,st.1.length]++ey M D st)))).map (ie .u8)))]:=by
 have ck:=zH (M:=M) (D:=D) (S:=S) (st:=st);have ns:=BS (M:=M) (D:=D) (S:=S) (st:=st);have hN3:([M,D,S,st.1.length]:List Nat).length=4:=rfl
 have hNm:∀x∈([M,D,S,st.1.length]:List Nat),x≤1048576:=by
  intro x hx;simp only[agG,ahd,or_false] at hx;omega
 have n1:=bW (L:=[]) (n:=1) (m:=4) zd zd zd zd zd;have n2:=bW (L:=numBits 1 4) (n:=3) (m:=3) zd (by rw[ai];decide) zd zd zd;rw[aht] at n1;generalize [M,D,S,st.1.length]=N at*
 have hnl:=aD N;have hgl:=cy hNm;have hhl:=eo 3;have hrl:=oW M D st;have hnw:st.1.length*(M+D)≤256*20:=agQ hX zo;have wr0:=fun(L:List Bool) (hL:L.length<1000000000)=>xB (M:=M) (D:=D) (S:=S) (st:=st) (L:=L) hM hD hX hc hs hL
 have hbl:(bI 3++bQ N++ey M D st).length≤9000:=by
  rw[agn,agn];omega
 have hg0:(bI 3++bQ N).length<1000000:=by rw[agn];omega
 have wr:=wr0 (bI 3++bQ N) zo;clear wr0
 have e0:numBits 1 4++numBits 3 3=bI 3++bQ (N.take 0):=by
  rw[ahk];show _=(numBits 1 4++numBits 3 3)++[];rw[ahj]
 change aC _ _ _ _ _ [some (jf 2 (numBits 1 4++numBits 3 3)),none,some (iY (numBits 1 4++numBits 3 3))] at n2;rw[e0] at n2;refine zF pl Tryz.call10 Tryz.func10 [.tmp 2,.tmp 3] fun Q hQ=>?_;refine ae ?_;refine zC ck ?_;refine zW [some 1,none] [] n1 ?_;refine zW [some 1,some 3] [] n2 ?_;refine zC ns ?_
 refine aU (X:=Nat) (st:=fun i=>([(1,.ref 0 0 0 0),(5,.ref 1 0 0 0),(23,.row 1 ((nl N).map (ie .i64))),(24,.lit (.int .i64 4)),(25,.lit (.int .i64 (i:Int)))],
  [some (.cells (QG (qg M D S st))),some (jf 2 (bI 3++bQ (N.take i))),some (iY (bI 3++bQ (N.take i)))]))
  (inv:=fun i=>i≤4) (m:=fun i=>4-i) 0 [some 0,some 1,some 4] (agM _) ?_
 intro i hi
 by_cases hil:i<4
 · have hg:=bg N i
   have hx:=iX hNm i;have hgl2:=cy (N:=N.take i) fun x hx=>hNm x (ag5 hx);have hti:(N.take i).length≤4:=by rw[agz];omega
   have gm:=dC (L:=bI 3++bQ (N.take i)) (n:=N.getD i 0+1) zo zo (by rw[agn];omega);rw[agw,←iG zo] at gm;generalize N.getD i 0=x at*
   rw[show((x+1:Nat):Int)=(x:Int)+1 by omega] at gm;refine bh hg ?_;refine zW [some 1,some 2] [] gm ?_;refine aO (i+1) [some 0,some 1,some 3] zo zo
 · obtain rfl:i=4:=by omega
   rw[agB zo];have by_:=gk (L:=bI 3++bQ N++ey M D st) zo;have sl:=jH (l:=jF (bI 3++bQ N++ey M D st)) (lM _) (by rw[fV];omega);rw[qD] at by_;refine ae ?_;refine zW [some 1,some 2] [] wr ?_;refine zW [some 1,some 3] [] by_ ?_;refine zW [] [] sl ?_;exact ak [some 4] hQ
set_option maxHeartbeats 2000000 in
theorem Jm {R C k a b T:Nat} {l:List RW} (h:aT k a b) (hC:1≤C∧C≤64) (hR:R≤4) (hl1:l.length≤4) (hl:∀r∈l,br k a b C r) (hT:T≤1099511627776):aC Tryz.prog 10 [pB R C k a b l T] [] (.tup [.sl 0 1 0 ((jF (bI 4++bQ [R,C,k,a,b]++oe k a b l T)).length+4),.lit (.int .i64 0)]) [some (.row 1 ((nl (cU (jF (bI 4++bQ [R,C,k,a,b]++oe k a b l T)))).map (ie .u8)))]:=by
 have ck:=AG (R:=R) (C:=C) (k:=k) (a:=a) (b:=b) (T:=T) (l:=l);have ns:=Dm (R:=R) (C:=C) (k:=k) (a:=a) (b:=b) (T:=T) (l:=l);have hN3:([R,C,k,a,b]:List Nat).length=5:=rfl
 have hNm:∀x∈([R,C,k,a,b]:List Nat),x≤1048576:=by
  intro x hx;simp only[agG,ahd,or_false] at hx;rcases h with h | h | h | h<;>omega
 have n1:=bW (L:=[]) (n:=1) (m:=4) zd zd zd zd zd;have n2:=bW (L:=numBits 1 4) (n:=4) (m:=3) zd (by rw[ai];decide) zd zd zd;rw[aht] at n1;generalize [R,C,k,a,b]=N at*
 have hnl:=aD N;have hgl:=cy hNm;have hhl:=eo 4;have hrl:(oe k a b l T).length=(cF T).length+l.length*(122+C*wd k a b):=by unfold oe;rw[agn,mg hl]
 have hvl:=qb hT;have hwd:=eC h;have hnw:l.length*(122+C*wd k a b)≤4*(122+64*16):=agQ hl1 (Nat.add_le_add_left (agQ hC.2 hwd.2) _);have wr0:=fun(L:List Bool) (hL:L.length<1000000000)=>uW (R:=R) (C:=C) (k:=k) (a:=a) (b:=b) (T:=T) (l:=l) (L:=L) h hC hl1 hl hT hL
 have hbl:(bI 4++bQ N++oe k a b l T).length≤9000:=by
  rw[agn,agn];omega
 have hg0:(bI 4++bQ N).length<1000000:=by rw[agn];omega
 have wr:=wr0 (bI 4++bQ N) zo;clear wr0
 have e0:numBits 1 4++numBits 4 3=bI 4++bQ (N.take 0):=by
  rw[ahk];show _=(numBits 1 4++numBits 4 3)++[];rw[ahj]
 change aC _ _ _ _ _ [some (jf 2 (numBits 1 4++numBits 4 3)),none,some (iY (numBits 1 4++numBits 4 3))] at n2;rw[e0] at n2;refine zF pl Tryz.call10 Tryz.func10 [.tmp 2,.tmp 3] fun Q hQ=>?_;refine ae ?_;refine zC ck ?_;refine zW [some 1,none] [] n1 ?_;refine zW [some 1,some 3] [] n2 ?_;refine zC ns ?_
 refine aU (X:=Nat) (st:=fun i=>([(1,.ref 0 0 0 0),(5,.ref 1 0 0 0),(23,.row 1 ((nl N).map (ie .i64))),(24,.lit (.int .i64 5)),(25,.lit (.int .i64 (i:Int)))],
  [some (.cells (QG (pB R C k a b l T))),some (jf 2 (bI 4++bQ (N.take i))),some (iY (bI 4++bQ (N.take i)))]))
  (inv:=fun i=>i≤5) (m:=fun i=>5-i) 0 [some 0,some 1,some 4] (agM _) ?_
 intro i hi
 by_cases hil:i<5
 · have hg:=bg N i
   have hx:=iX hNm i;have hgl2:=cy (N:=N.take i) fun x hx=>hNm x (ag5 hx);have hti:(N.take i).length≤5:=by rw[agz];omega
   have gm:=dC (L:=bI 4++bQ (N.take i)) (n:=N.getD i 0+1) zo zo (by rw[agn];omega);rw[agw,←iG zo] at gm;generalize N.getD i 0=x at*
   rw[show((x+1:Nat):Int)=(x:Int)+1 by omega] at gm;refine bh hg ?_;refine zW [some 1,some 2] [] gm ?_;refine aO (i+1) [some 0,some 1,some 3] zo zo
 · obtain rfl:i=5:=by omega
   rw[agB zo];have by_:=gk (L:=bI 4++bQ N++oe k a b l T) zo;have sl:=jH (l:=jF (bI 4++bQ N++oe k a b l T)) (lM _) (by rw[fV];omega);rw[qD] at by_;refine ae ?_;refine zW [some 1,some 2] [] wr ?_;refine zW [some 1,some 3] [] by_ ?_;refine zW [] [] sl ?_;exact ak [some 4] hQ
set_option maxHeartbeats 2000000 in
theorem J5 {K P C T:Nat} {X:List (Nat×Nat)} (hK:K≤8) (hP:P≤8) (hC:C≤16) (hX:X.length≤16) (hk:∀x∈X,x.1<2305843009213693951∧x.2≤1048576) (h1:T=0∨∀x∈X,1≤x.2) (hT:T≤1048576):aC Tryz.prog 10 [oU K P C X T] [] (.tup [.sl 0 1 0 ((jF (bI 5++bQ [K,P,C]++eH X T)).length+4),.lit (.int .i64 0)]) [some (.row 1 ((nl (cU (jF (bI 5++bQ [K,P,C]++eH X T)))).map (ie .u8)))]:=by
 have ck:=zQ (K:=K) (P:=P) (C:=C) (T:=T) (X:=X);have ns:=B8 (K:=K) (P:=P) (C:=C) (T:=T) (X:=X);have hN3:([K,P,C]:List Nat).length=3:=rfl
 have hNm:∀x∈([K,P,C]:List Nat),x≤1048576:=by
  intro x hx;simp only[agG,ahd,or_false] at hx;omega
 have n1:=bW (L:=[]) (n:=1) (m:=4) zd zd zd zd zd;have n2:=bW (L:=numBits 1 4) (n:=5) (m:=3) zd (by rw[ai];decide) zd zd zd;rw[aht] at n1;generalize [K,P,C]=N at*
 have hnl:=aD N;have hgl:=cy hNm;have hhl:=eo 5
 have hrl:(eH X T).length≤24+16*102:=by
  have hv:=lF hT;unfold eH;rw[agn]
  split
  · rw[agE];omega
  · rename_i h0
    have:=oT (X:=X) fun x hx=>⟨(h1.resolve_left h0) x hx,(hk x hx).2⟩
    have h2:X.length*102≤16*102:=agP _ hX;omega
 have wr0:=fun(L:List Bool) (hL:L.length<1000000000)=>xU (K:=(K:Int)) (P:=(P:Int)) (C:=(C:Int)) (X:=X) (N:=T) (L:=L) zo hk h1 hT hL
 have hbl:(bI 5++bQ N++eH X T).length≤9000:=by
  rw[agn,agn];omega
 have hg0:(bI 5++bQ N).length<1000000:=by rw[agn];omega
 have wr:=wr0 (bI 5++bQ N) zo;clear wr0
 have e0:numBits 1 4++numBits 5 3=bI 5++bQ (N.take 0):=by
  rw[ahk];show _=(numBits 1 4++numBits 5 3)++[];rw[ahj]
 change aC _ _ _ _ _ [some (jf 2 (numBits 1 4++numBits 5 3)),none,some (iY (numBits 1 4++numBits 5 3))] at n2;rw[e0] at n2;refine zF pl Tryz.call10 Tryz.func10 [.tmp 2,.tmp 3] fun Q hQ=>?_;refine ae ?_;refine zC ck ?_;refine zW [some 1,none] [] n1 ?_;refine zW [some 1,some 3] [] n2 ?_;refine zC ns ?_
 refine aU (X:=Nat) (st:=fun i=>([(1,.ref 0 0 0 0),(5,.ref 1 0 0 0),(23,.row 1 ((nl N).map (ie .i64))),(24,.lit (.int .i64 3)),(25,.lit (.int .i64 (i:Int)))],
  [some (.cells (QG (oU K P C X T))),some (jf 2 (bI 5++bQ (N.take i))),some (iY (bI 5++bQ (N.take i)))]))
  (inv:=fun i=>i≤3) (m:=fun i=>3-i) 0 [some 0,some 1,some 4] (agM _) ?_
 intro i hi
 by_cases hil:i<3
 · have hg:=bg N i
   have hx:=iX hNm i;have hgl2:=cy (N:=N.take i) fun x hx=>hNm x (ag5 hx);have hti:(N.take i).length≤3:=by rw[agz];omega
   have gm:=dC (L:=bI 5++bQ (N.take i)) (n:=N.getD i 0+1) zo zo (by rw[agn];omega);rw[agw,←iG zo] at gm;generalize N.getD i 0=x at*
   rw[show((x+1:Nat):Int)=(x:Int)+1 by omega] at gm;refine bh hg ?_;refine zW [some 1,some 2] [] gm ?_;refine aO (i+1) [some 0,some 1,some 3] zo zo
 · obtain rfl:i=3:=by omega
   rw[agB zo];have by_:=gk (L:=bI 5++bQ N++eH X T) zo;have sl:=jH (l:=jF (bI 5++bQ N++eH X T)) (lM _) (by rw[fV];omega);rw[qD] at by_;refine ae ?_;refine zW [some 1,some 2] [] wr ?_;refine zW [some 1,some 3] [] by_ ?_;refine zW [] [] sl ?_;exact ak [some 4] hQ
end Go.Proofs.YtcnlmelpnflhnaaGreat
