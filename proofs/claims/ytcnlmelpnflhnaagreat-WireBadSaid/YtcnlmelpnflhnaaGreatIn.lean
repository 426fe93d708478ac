import Derived.Test.YtcnlmelpnflhnaaGreatBm
namespace Go.Proofs.YtcnlmelpnflhnaaGreat
open Go.Eng Go.Vx
set_option linter.unusedSimpArgs false
set_option linter.unusedVariables false
set_option maxRecDepth 100000
def pZ (k a b n:Nat) (l:List SR):V:=.agg [.I 2,.I 0,.I 0,.I 0,.I 0,.I 0,.lit (.bool false),kO k a b n (wd k a b) (bj (wd k a b) (l.map (iL k a b))),.lit (.pointer none),.lit (.pointer none),.lit (.pointer none)]
def p8 (M D S:Nat) (st:SS):V:=.agg [.I 3,.I 0,.I 0,.I 0,.I 0,.I 0,.lit (.bool false),.lit (.pointer none),Km M D S st,.lit (.pointer none),.lit (.pointer none)]
def p6 (R C k a b:Nat) (l:List RW) (T:Nat):V:=.agg [.I 4,.I 0,.I 0,.I 0,.I 0,.I 0,.lit (.bool false),.lit (.pointer none),.lit (.pointer none),tQ R C k a b l T,.lit (.pointer none)]
def pY (K P C:Nat) (X:List (Nat×Nat)) (T:Nat):V:=.agg [.I 5,.I 0,.I 0,.I 0,.I 0,.I 0,.lit (.bool false),.lit (.pointer none),.lit (.pointer none),.lit (.pointer none),L4 (K:Int) (P:Int) (C:Int) X T]
attribute [go_sem] pZ p8 p6 pY
theorem yc {R C k a b:Nat} {l:List RW} {T:Nat}:aA Tryz.prog 94 [tQ R C k a b l T] [] (.agg [.I R,.I C,.I k,.I a,.I b]) []:=by
 refine zF pl Tryz.call94 Tryz.func94 [.cell 2 88] fun Q hQ=>?_;exact zE [] hQ
def U0:V→List V
 | .agg l=>l
 | _=> []
@[go_sem] theorem afO {l:List V}:U0 (.agg l)=l:=(rfl)
theorem Cp {k a b n:Nat} {l:List SR}:aA Tryz.prog 35 [pZ k a b n l] [] (.lit (.bool true)) []:=by
 refine zF pl Tryz.call35 Tryz.func35 [.tmp 2] fun Q hQ=>?_;exact zE [] hQ
theorem qC {k a b n:Nat} {l:List SR}:aA Tryz.prog 9 [pZ k a b n l] [] (.I 0) []:=by
 have g:=Cp (k:=k) (a:=a) (b:=b) (n:=n) (l:=l);refine zF pl Tryz.call9 Tryz.func9 [.tmp 2] fun Q hQ=>?_;refine ae ?_;refine zC g ?_;exact ai [] hQ
theorem Cr {M D S:Nat} {st:SS}:aA Tryz.prog 35 [p8 M D S st] [] (.lit (.bool true)) []:=by
 refine zF pl Tryz.call35 Tryz.func35 [.tmp 2] fun Q hQ=>?_;exact zE [] hQ
theorem qd {M D S:Nat} {st:SS}:aA Tryz.prog 9 [p8 M D S st] [] (.I 0) []:=by
 have g:=Cr (M:=M) (D:=D) (S:=S) (st:=st);refine zF pl Tryz.call9 Tryz.func9 [.tmp 2] fun Q hQ=>?_;refine ae ?_;refine zC g ?_;exact ai [] hQ
theorem zX {R C k a b T:Nat} {l:List RW}:aA Tryz.prog 35 [p6 R C k a b l T] [] (.lit (.bool true)) []:=by
 refine zF pl Tryz.call35 Tryz.func35 [.tmp 2] fun Q hQ=>?_;exact zE [] hQ
theorem qw {R C k a b T:Nat} {l:List RW}:aA Tryz.prog 9 [p6 R C k a b l T] [] (.I 0) []:=by
 have g:=zX (R:=R) (C:=C) (k:=k) (a:=a) (b:=b) (T:=T) (l:=l);refine zF pl Tryz.call9 Tryz.func9 [.tmp 2] fun Q hQ=>?_;refine ae ?_;refine zC g ?_;exact ai [] hQ
theorem zV {K P C T:Nat} {X:List (Nat×Nat)}:aA Tryz.prog 35 [pY K P C X T] [] (.lit (.bool true)) []:=by
 refine zF pl Tryz.call35 Tryz.func35 [.tmp 2] fun Q hQ=>?_;exact zE [] hQ
theorem qg {K P C T:Nat} {X:List (Nat×Nat)}:aA Tryz.prog 9 [pY K P C X T] [] (.I 0) []:=by
 have g:=zV (K:=K) (P:=P) (C:=C) (T:=T) (X:=X);refine zF pl Tryz.call9 Tryz.func9 [.tmp 2] fun Q hQ=>?_;refine ae ?_;refine zC g ?_;exact ai [] hQ
theorem FX {k a b n:Nat} {l:List SR}:aA Tryz.prog 37 [pZ k a b n l] [] (.row 1 ((nl [k,a,b,n]).map (ie .i64))) []:=by
 have o:=qI (k:=k) (a:=a) (b:=b);have pa:=Fg (k:=k) (a:=a) (b:=b) (n:=n) (w:=wd k a b) (X:=bj (wd k a b) (l.map (iL k a b)));have vl:=Om (n:=n) (w:=wd k a b) (L:=words (bq n (wd k a b)) (bj (wd k a b) (l.map (iL k a b))));simp only[nl,akK,akV,ie] at o;refine zF xC Tryz.call37 Tryz.func37 [.tmp 2] fun Q hQ=>?_;simp only[nl,akK,akV,ie] at hQ;refine ae ?_;refine zC pa ?_;refine dk (o) ?_;refine ae ?_;refine zC vl ?_;exact ai [] hQ
theorem EM {M D S:Nat} {st:SS}:aA Tryz.prog 37 [p8 M D S st] [] (.row 1 ((nl [M,D,S,st.1.length]).map (ie .i64))) []:=by
 have pa:=zQ (M:=M) (D:=D) (S:=S) (st:=st);have ln:=H7 (M:=M) (D:=D) (S:=S) (st:=st);refine zF xC Tryz.call37 Tryz.func37 [.tmp 2] fun Q hQ=>?_;simp only[nl,akK,akV,ie] at hQ;refine ae ?_;refine zC pa ?_;refine zC ln ?_;exact ai [] hQ
theorem E0 {K P C:Nat} {X:List (Nat×Nat)} {T:Nat}:aA Tryz.prog 37 [pY K P C X T] [] (.row 1 ((nl [K,P,C]).map (ie .i64))) []:=by
 have pa:=Bz (K:=(K:Int)) (P:=(P:Int)) (C:=(C:Int)) (X:=X) (N:=T);refine zF xC Tryz.call37 Tryz.func37 [.tmp 2] fun Q hQ=>?_;simp only[nl,akK,akV,ie] at hQ;refine ae ?_;refine zC pa ?_;exact ai [] hQ
theorem Gj {R C k a b:Nat} {l:List RW} {T:Nat}:aA Tryz.prog 37 [p6 R C k a b l T] [] (.row 1 ((nl [R,C,k,a,b]).map (ie .i64))) []:=by
 have o:=qI (k:=k) (a:=a) (b:=b);have pa:=yc (R:=R) (C:=C) (k:=k) (a:=a) (b:=b) (l:=l) (T:=T);simp only[nl,akK,akV,ie] at o;refine zF xC Tryz.call37 Tryz.func37 [.tmp 2] fun Q hQ=>?_;simp only[nl,akK,akV,ie] at hQ;refine ae ?_;refine zC pa ?_;refine dk (o) ?_;exact zE [] hQ
set_option maxHeartbeats 2000000 in
theorem Mz {k a b:Nat} {s:Nat×Nat×Bool} (h:aX k a b) (w:aZ k a b s):aA Tryz.prog 10 [zH k a b s] [] (.tup [.sl 0 1 0 ((j9 (bT 1++cu [k,a,b]++dr k a b s)).length+4),.I 0]) [some (.row 1 ((nl (aT (j9 (bT 1++cu [k,a,b]++dr k a b s)))).map (ie .u8)))]:=by
 have ck:=jy h w;have ns:=xd (k:=k) (a:=a) (b:=b) (s:=s);have hN3:([k,a,b]:List Nat).length=3:=rfl
 have hNm:∀x∈([k,a,b]:List Nat),x≤1048576:=by
  intro x hx;simp only[aky,ak6,or_false] at hx;rcases h with h | h | h | h<;>omega
 have n1:=cC (L:=[]) (n:=1) (m:=4) zd zd zd zd zd;have n2:=cC (L:=numBits 1 4) (n:=1) (m:=3) zd (by rw[aj];decide) zd zd zd;rw[aln] at n1;generalize [k,a,b]=N at*
 have hnl:=av N;have hgl:=cQ hNm;have hhl:=eW 1;have hrl:=ey k a b s;have hwl:=Bh h;have wr0:=fun(L:List Bool) (hL:L.length<1099511600000)=>po (L:=L) h w hL
 have hbl:(bT 1++cu N++dr k a b s).length≤9000:=by
  rw[ake,ake];omega
 have hg0:(bT 1++cu N).length<1000000:=by rw[ake];omega
 have wr:=wr0 (bT 1++cu N) zo;clear wr0
 have e0:numBits 1 4++numBits 1 3=bT 1++cu (N.take 0):=by
  rw[alf];show _=(numBits 1 4++numBits 1 3)++[];rw[ak7]
 change aA _ _ _ _ _ [some (jY 2 (numBits 1 4++numBits 1 3)),none,some (jN (numBits 1 4++numBits 1 3))] at n2;rw[e0] at n2;refine zF pl Tryz.call10 Tryz.func10 [.tmp 2,.tmp 3] fun Q hQ=>?_;refine ae ?_;refine zC ck ?_;refine zW [some 1,none] [] n1 ?_;refine zW [some 1,some 3] [] n2 ?_;refine zC ns ?_
 refine aU (X:=Nat) (st:=fun i=>([(1,.ref 0 0 0 0),(5,.ref 1 0 0 0),(23,.row 1 ((nl N).map (ie .i64))),(24,.I 3),(25,.I i)],
  [some (.cells (U0 (zH k a b s))),some (jY 2 (bT 1++cu (N.take i))),some (jN (bT 1++cu (N.take i)))]))
  (inv:=fun i=>i≤3) (m:=fun i=>3-i) 0 [some 0,some 1,some 4] (akF _) ?_
 intro i hi
 by_cases hil:i<3
 · have hg:=bt N i
   have hx:=jM hNm i;have hgl2:=cQ (N:=N.take i) fun x hx=>hNm x (akt hx);have hti:(N.take i).length≤3:=by rw[akr];omega
   have gm:=dZ (L:=bT 1++cu (N.take i)) (n:=N.getD i 0+1) zo zo (by rw[ake];omega);rw[akl,←jn zo] at gm;generalize N.getD i 0=x at*
   rw[show((x+1:Nat):Int)=(x:Int)+1 by omega] at gm;refine bg hg ?_;refine zW [some 1,some 2] [] gm ?_;refine aR (i+1) [some 0,some 1,some 3] zo zo
 · obtain rfl:i=3:=by omega
   rw[aku zo];have by_:=ik (L:=bT 1++cu N++dr k a b s) zo;have sl:=kE (l:=j9 (bT 1++cu N++dr k a b s)) (lx _) (by rw[gU];omega);rw[sQ] at by_;refine ae ?_;refine zW [some 1,some 2] [] wr ?_;refine zW [some 1,some 3] [] by_ ?_;refine zW [] [] sl ?_;exact ai [some 4] hQ
set_option maxHeartbeats 2000000 in
theorem N0 {k a b n:Nat} {l:List SR} (h:aX k a b) (hn:n≤256) (hM:l.length=n):aA Tryz.prog 10 [pZ k a b n l] [] (.tup [.sl 0 1 0 ((j9 (bT 2++cu [k,a,b,n]++du (wd k a b) (l.map (iL k a b)))).length+4),.I 0]) [some (.row 1 ((nl (aT (j9 (bT 2++cu [k,a,b,n]++du (wd k a b) (l.map (iL k a b)))))).map (ie .u8)))]:=by
 have ck:=qC (k:=k) (a:=a) (b:=b) (n:=n) (l:=l);have ns:=FX (k:=k) (a:=a) (b:=b) (n:=n) (l:=l);have hN3:([k,a,b,n]:List Nat).length=4:=rfl
 have hNm:∀x∈([k,a,b,n]:List Nat),x≤1048576:=by
  intro x hx;simp only[aky,ak6,or_false] at hx;rcases h with h | h | h | h<;>omega
 have n1:=cC (L:=[]) (n:=1) (m:=4) zd zd zd zd zd;have n2:=cC (L:=numBits 1 4) (n:=2) (m:=3) zd (by rw[aj];decide) zd zd zd;rw[aln] at n1;generalize [k,a,b,n]=N at*
 have hnl:=av N;have hgl:=cQ hNm;have hhl:=eW 2;have hrl:=jm (wd k a b) (l.map (iL k a b));rw[aki] at hrl;have hwd:=ff h;have hnw:l.length*wd k a b≤256*16:=akH zo hwd.2
 have wr0:=fun(L:List Bool) (hL:L.length<1099511600000)=>uX (n:=n) (w:=wd k a b) (N:=l.map (iL k a b)) (L:=L) hn ⟨hwd.1,by omega⟩ (by rw[aki];exact hM) (fun y hy=>by
  obtain ⟨s,_,rfl⟩:=alb.1 hy;exact kT k a b s) hL
 have hbl:(bT 2++cu N++du (wd k a b) (l.map (iL k a b))).length≤9000:=by
  rw[ake,ake];omega
 have hg0:(bT 2++cu N).length<1000000:=by rw[ake];omega
 have wr:=wr0 (bT 2++cu N) zo;clear wr0
 have e0:numBits 1 4++numBits 2 3=bT 2++cu (N.take 0):=by
  rw[alf];show _=(numBits 1 4++numBits 2 3)++[];rw[ak7]
 change aA _ _ _ _ _ [some (jY 2 (numBits 1 4++numBits 2 3)),none,some (jN (numBits 1 4++numBits 2 3))] at n2;rw[e0] at n2;refine zF pl Tryz.call10 Tryz.func10 [.tmp 2,.tmp 3] fun Q hQ=>?_;refine ae ?_;refine zC ck ?_;refine zW [some 1,none] [] n1 ?_;refine zW [some 1,some 3] [] n2 ?_;refine zC ns ?_
 refine aU (X:=Nat) (st:=fun i=>([(1,.ref 0 0 0 0),(5,.ref 1 0 0 0),(23,.row 1 ((nl N).map (ie .i64))),(24,.I 4),(25,.I i)],
  [some (.cells (U0 (pZ k a b n l))),some (jY 2 (bT 2++cu (N.take i))),some (jN (bT 2++cu (N.take i)))]))
  (inv:=fun i=>i≤4) (m:=fun i=>4-i) 0 [some 0,some 1,some 4] (akF _) ?_
 intro i hi
 by_cases hil:i<4
 · have hg:=bt N i
   have hx:=jM hNm i;have hgl2:=cQ (N:=N.take i) fun x hx=>hNm x (akt hx);have hti:(N.take i).length≤4:=by rw[akr];omega
   have gm:=dZ (L:=bT 2++cu (N.take i)) (n:=N.getD i 0+1) zo zo (by rw[ake];omega);rw[akl,←jn zo] at gm;generalize N.getD i 0=x at*
   rw[show((x+1:Nat):Int)=(x:Int)+1 by omega] at gm;refine bg hg ?_;refine zW [some 1,some 2] [] gm ?_;refine aR (i+1) [some 0,some 1,some 3] zo zo
 · obtain rfl:i=4:=by omega
   rw[aku zo];have by_:=ik (L:=bT 2++cu N++du (wd k a b) (l.map (iL k a b))) zo;have sl:=kE (l:=j9 (bT 2++cu N++du (wd k a b) (l.map (iL k a b)))) (lx _) (by rw[gU];omega);rw[sQ] at by_;refine ae ?_;refine zW [some 1,some 2] [] wr ?_;refine zW [some 1,some 3] [] by_ ?_;refine zW [] [] sl ?_;exact ai [some 4] hQ
set_option maxHeartbeats 2000000 in
theorem LR {M D S:Nat} {st:SS} (hM:M≤16) (hD:D≤4) (hS:S≤8) (hX:st.1.length≤256) (hc:∀c∈st.1,c.1<2^M∧c.2<2^D) (hs:1≤st.2.1∧st.2.1≤8):aA Tryz.prog 10 [p8 M D S st] [] (.tup [.sl 0 1 0 ((j9 (bT 3++cu [M,D,S,st.1.length]++eC M D st)).length+4),.I 0]) [some (.row 1 ((nl (aT (j9 (bT 3++cu [M,D,S,st.1.length]++eC M D st)))).map (ie .u8)))]:=by
 have ck:=qd (M:=M) (D:=D) (S:=S) (st:=st);have ns:=EM (M:=M) (D:=D) (S:=S) (st:=st);have hN3:([M,D,S,st.1.length]:List Nat).length=4:=rfl
 have hNm:∀x∈([M,D,S,st.1.length]:List Nat),x≤1048576:=by
  intro x hx;simp only[aky,ak6,or_false] at hx;omega
 have n1:=cC (L:=[]) (n:=1) (m:=4) zd zd zd zd zd;have n2:=cC (L:=numBits 1 4) (n:=3) (m:=3) zd (by rw[aj];decide) zd zd zd;rw[aln] at n1;generalize [M,D,S,st.1.length]=N at*
 have hnl:=av N;have hgl:=cQ hNm;have hhl:=eW 3;have hrl:=np M D st;have hnw:st.1.length*(M+D)≤256*20:=akH hX zo;have wr0:=fun(L:List Bool) (hL:L.length<1000000000)=>Ah (M:=M) (D:=D) (S:=S) (st:=st) (L:=L) hM hD hX hc hs hL
 have hbl:(bT 3++cu N++eC M D st).length≤9000:=by
  rw[ake,ake];omega
 have hg0:(bT 3++cu N).length<1000000:=by rw[ake];omega
 have wr:=wr0 (bT 3++cu N) zo;clear wr0
 have e0:numBits 1 4++numBits 3 3=bT 3++cu (N.take 0):=by
  rw[alf];show _=(numBits 1 4++numBits 3 3)++[];rw[ak7]
 change aA _ _ _ _ _ [some (jY 2 (numBits 1 4++numBits 3 3)),none,some (jN (numBits 1 4++numBits 3 3))] at n2;rw[e0] at n2;refine zF pl Tryz.call10 Tryz.func10 [.tmp 2,.tmp 3] fun Q hQ=>?_;refine ae ?_;refine zC ck ?_;refine zW [some 1,none] [] n1 ?_;refine zW [some 1,some 3] [] n2 ?_;refine zC ns ?_
 refine aU (X:=Nat) (st:=fun i=>([(1,.ref 0 0 0 0),(5,.ref 1 0 0 0),(23,.row 1 ((nl N).map (ie .i64))),(24,.I 4),(25,.I i)],
  [some (.cells (U0 (p8 M D S st))),some (jY 2 (bT 3++cu (N.take i))),some (jN (bT 3++cu (N.take i)))]))
  (inv:=fun i=>i≤4) (m:=fun i=>4-i) 0 [some 0,some 1,some 4] (akF _) ?_
 intro i hi
 by_cases hil:i<4
 · have hg:=bt N i
   have hx:=jM hNm i;have hgl2:=cQ (N:=N.take i) fun x hx=>hNm x (akt hx);have hti:(N.take i).length≤4:=by rw[akr];omega
   have gm:=dZ (L:=bT 3++cu (N.take i)) (n:=N.getD i 0+1) zo zo (by rw[ake];omega);rw[akl,←jn zo] at gm;generalize N.getD i 0=x at*
   rw[show((x+1:Nat):Int)=(x:Int)+1 by omega] at gm;refine bg hg ?_;refine zW [some 1,some 2] [] gm ?_;refine aR (i+1) [some 0,some 1,some 3] zo zo
 · obtain rfl:i=4:=by omega
   rw[aku zo];have by_:=ik (L:=bT 3++cu N++eC M D st) zo;have sl:=kE (l:=j9 (bT 3++cu N++eC M D st)) (lx _) (by rw[gU];omega);rw[sQ] at by_;refine ae ?_;refine zW [some 1,some 2] [] wr ?_;refine zW [some 1,some 3] [] by_ ?_;refine zW [] [] sl ?_;exact ai [some 4] hQ
set_option maxHeartbeats 2000000 in
theorem Nh {R C k a b T:Nat} {l:List RW} (h:aX k a b) (hC:1≤C∧C≤64) (hR:R≤4) (hl1:l.length≤4) (hl:∀r∈l,bB k a b C r) (hT:T≤1099511627776):aA Tryz.prog 10 [p6 R C k a b l T] [] (.tup [.sl 0 1 0 ((j9 (bT 4++cu [R,C,k,a,b]++pW k a b l T)).length+4),.I 0]) [some (.row 1 ((nl (aT (j9 (bT 4++cu [R,C,k,a,b]++pW k a b l T)))).map (ie .u8)))]:=by
 have ck:=qw (R:=R) (C:=C) (k:=k) (a:=a) (b:=b) (T:=T) (l:=l);have ns:=Gj (R:=R) (C:=C) (k:=k) (a:=a) (b:=b) (T:=T) (l:=l);have hN3:([R,C,k,a,b]:List Nat).length=5:=rfl
 have hNm:∀x∈([R,C,k,a,b]:List Nat),x≤1048576:=by
  intro x hx;simp only[aky,ak6,or_false] at hx;rcases h with h | h | h | h<;>omega
 have n1:=cC (L:=[]) (n:=1) (m:=4) zd zd zd zd zd;have n2:=cC (L:=numBits 1 4) (n:=4) (m:=3) zd (by rw[aj];decide) zd zd zd;rw[aln] at n1;generalize [R,C,k,a,b]=N at*
 have hnl:=av N;have hgl:=cQ hNm;have hhl:=eW 4;have hrl:(pW k a b l T).length=(cR T).length+l.length*(122+C*wd k a b):=by unfold pW;rw[ake,nM hl]
 have hvl:=r7 hT;have hwd:=ff h;have hnw:l.length*(122+C*wd k a b)≤4*(122+64*16):=akH hl1 (Nat.add_le_add_left (akH hC.2 hwd.2) _);have wr0:=fun(L:List Bool) (hL:L.length<1000000000)=>xF (R:=R) (C:=C) (k:=k) (a:=a) (b:=b) (T:=T) (l:=l) (L:=L) h hC hl1 hl hT hL
 have hbl:(bT 4++cu N++pW k a b l T).length≤9000:=by
  rw[ake,ake];omega
 have hg0:(bT 4++cu N).length<1000000:=by rw[ake];omega
 have wr:=wr0 (bT 4++cu N) zo;clear wr0
 have e0:numBits 1 4++numBits 4 3=bT 4++cu (N.take 0):=by
  rw[alf];show _=(numBits 1 4++numBits 4 3)++[];rw[ak7]
 change aA _ _ _ _ _ [some (jY 2 (numBits 1 4++numBits 4 3)),none,some (jN (numBits 1 4++numBits 4 3))] at n2;rw[e0] at n2;refine zF pl Tryz.call10 Tryz.func10 [.tmp 2,.tmp 3] fun Q hQ=>?_;refine ae ?_;refine zC ck ?_;refine zW [some 1,none] [] n1 ?_;refine zW [some 1,some 3] [] n2 ?_;refine zC ns ?_
 refine aU (X:=Nat) (st:=fun i=>([(1,.ref 0 0 0 0),(5,.ref 1 0 0 0),(23,.row 1 ((nl N).map (ie .i64))),(24,.I 5),(25,.I i)],
  [some (.cells (U0 (p6 R C k a b l T))),some (jY 2 (bT 4++cu (N.take i))),some (jN (bT 4++cu (N.take i)))]))
  (inv:=fun i=>i≤5) (m:=fun i=>5-i) 0 [some 0,some 1,some 4] (akF _) ?_
 intro i hi
 by_cases hil:i<5
 · have hg:=bt N i
   have hx:=jM hNm i;have hgl2:=cQ (N:=N.take i) fun x hx=>hNm x (akt hx);have hti:(N.take i).length≤5:=by rw[akr];omega
   have gm:=dZ (L:=bT 4++cu (N.take i)) (n:=N.getD i 0+1) zo zo (by rw[ake];omega);rw[akl,←jn zo] at gm;generalize N.getD i 0=x at*
   rw[show((x+1:Nat):Int)=(x:Int)+1 by omega] at gm;refine bg hg ?_;refine zW [some 1,some 2] [] gm ?_;refine aR (i+1) [some 0,some 1,some 3] zo zo
 · obtain rfl:i=5:=by omega
   rw[aku zo];have by_:=ik (L:=bT 4++cu N++pW k a b l T) zo;have sl:=kE (l:=j9 (bT 4++cu N++pW k a b l T)) (lx _) (by rw[gU];omega);rw[sQ] at by_;refine ae ?_;refine zW [some 1,some 2] [] wr ?_;refine zW [some 1,some 3] [] by_ ?_;refine zW [] [] sl ?_;exact ai [some 4] hQ
set_option maxHeartbeats 2000000 in
theorem N7 {K P C T:Nat} {X:List (Nat×Nat)} (hK:K≤8) (hP:P≤8) (hC:C≤16) (hX:X.length≤16) (hk:∀x∈X,x.1<2305843009213693951∧x.2≤1048576) (h1:T=0∨∀x∈X,1≤x.2) (hT:T≤1048576):aA Tryz.prog 10 [pY K P C X T] [] (.tup [.sl 0 1 0 ((j9 (bT 5++cu [K,P,C]++eG X T)).length+4),.I 0]) [some (.row 1 ((nl (aT (j9 (bT 5++cu [K,P,C]++eG X T)))).map (ie .u8)))]:=by
 have ck:=qg (K:=K) (P:=P) (C:=C) (T:=T) (X:=X);have ns:=E0 (K:=K) (P:=P) (C:=C) (T:=T) (X:=X);have hN3:([K,P,C]:List Nat).length=3:=rfl
 have hNm:∀x∈([K,P,C]:List Nat),x≤1048576:=by
  intro x hx;simp only[aky,ak6,or_false] at hx;omega
 have n1:=cC (L:=[]) (n:=1) (m:=4) zd zd zd zd zd;have n2:=cC (L:=numBits 1 4) (n:=5) (m:=3) zd (by rw[aj];decide) zd zd zd;rw[aln] at n1;generalize [K,P,C]=N at*
 have hnl:=av N;have hgl:=cQ hNm;have hhl:=eW 5
 have hrl:(eG X T).length≤24+16*102:=by
  have hv:=mT hT;unfold eG;rw[ake]
  split
  · rw[akz];omega
  · rename_i h0
    have:=qE (X:=X) fun x hx=>⟨(h1.resolve_left h0) x hx,(hk x hx).2⟩
    have h2:X.length*102≤16*102:=akI _ hX;omega
 have wr0:=fun(L:List Bool) (hL:L.length<1000000000)=>AE (K:=(K:Int)) (P:=(P:Int)) (C:=(C:Int)) (X:=X) (N:=T) (L:=L) zo hk h1 hT hL
 have hbl:(bT 5++cu N++eG X T).length≤9000:=by
  rw[ake,ake];omega
 have hg0:(bT 5++cu N).length<1000000:=by rw[ake];omega
 have wr:=wr0 (bT 5++cu N) zo;clear wr0
 have e0:numBits 1 4++numBits 5 3=bT 5++cu (N.take 0):=by
  rw[alf];show _=(numBits 1 4++numBits 5 3)++[];rw[ak7]
 change aA _ _ _ _ _ [some (jY 2 (numBits 1 4++numBits 5 3)),none,some (jN (numBits 1 4++numBits 5 3))] at n2;rw[e0] at n2;refine zF pl Tryz.call10 Tryz.func10 [.tmp 2,.tmp 3] fun Q hQ=>?_;refine ae ?_;refine zC ck ?_;refine zW [some 1,none] [] n1 ?_;refine zW [some 1,some 3] [] n2 ?_;refine zC ns ?_
 refine aU (X:=Nat) (st:=fun i=>([(1,.ref 0 0 0 0),(5,.ref 1 0 0 0),(23,.row 1 ((nl N).map (ie .i64))),(24,.I 3),(25,.I i)],
  [some (.cells (U0 (pY K P C X T))),some (jY 2 (bT 5++cu (N.take i))),some (jN (bT 5++cu (N.take i)))]))
  (inv:=fun i=>i≤3) (m:=fun i=>3-i) 0 [some 0,some 1,some 4] (akF _) ?_
 intro i hi
 by_cases hil:i<3
 · have hg:=bt N i
   have hx:=jM hNm i;have hgl2:=cQ (N:=N.take i) fun x hx=>hNm x (akt hx);have hti:(N.take i).length≤3:=by rw[akr];omega
   have gm:=dZ (L:=bT 5++cu (N.take i)) (n:=N.getD i 0+1) zo zo (by rw[ake];omega);rw[akl,←jn zo] at gm;generalize N.getD i 0=x at*
   rw[show((x+1:Nat):Int)=(x:Int)+1 by omega] at gm;refine bg hg ?_;refine zW [some 1,some 2] [] gm ?_;refine aR (i+1) [some 0,some 1,some 3] zo zo
 · obtain rfl:i=3:=by omega
   rw[aku zo];have by_:=ik (L:=bT 5++cu N++eG X T) zo;have sl:=kE (l:=j9 (bT 5++cu N++eG X T)) (lx _) (by rw[gU];omega);rw[sQ] at by_;refine ae ?_;refine zW [some 1,some 2] [] wr ?_;refine zW [some 1,some 3] [] by_ ?_;refine zW [] [] sl ?_;exact ai [some 4] hQ
end Go.Proofs.YtcnlmelpnflhnaaGreat
