import Derived.Test.YtcnlmelpnflhnaaGreatAc
import Derived.Test.YtcnlmelpnflhnaaGreatHb
import Derived.Test.YtcnlmelpnflhnaaGreatHa
import Derived.Test.YtcnlmelpnflhnaaGreatAa
import Derived.Test.YtcnlmelpnflhnaaGreatBi
import Derived.Test.YtcnlmelpnflhnaaGreatHf
import Derived.Test.YtcnlmelpnflhnaaGreatFw
import Derived.Test.YtcnlmelpnflhnaaGreatFb
namespace Go.Proofs.YtcnlmelpnflhnaaGreat
open Go.Eng Go.Vx
set_option linter.unusedSimpArgs false
set_option linter.unusedVariables false
set_option maxRecDepth 100000
def Oe (v:Nat):V:=.agg [.lit (.int .i64 3),.lit (.int .i64 0),.lit (.int .i64 0),.lit (.int .i64 0),.lit (.int .i64 0),.lit (.int .i64 0),.lit (.bool false),.lit (.pointer none),.ref v 0 0 0,.lit (.pointer none),.lit (.pointer none)]
def NW (v:Nat):V:=.agg [.lit (.int .i64 5),.lit (.int .i64 0),.lit (.int .i64 0),.lit (.int .i64 0),.lit (.int .i64 0),.lit (.int .i64 0),.lit (.bool false),.lit (.pointer none),.lit (.pointer none),.lit (.pointer none),.ref v 0 0 0]
attribute [go_sem] Oe NW
theorem zi {M D S:Nat} {st:SS}:aA Tryz.prog 93 [I6 M D S st] [] (pA M D S) []:=by
 refine zF pl Tryz.call93 Tryz.func93 [.cell 2 81] fun Q hQ=>?_;exact zE [] hQ
theorem Hb {M D S:Nat} {st:SS}:aA Tryz.prog 30 [I6 M D S st] [] (.lit (.int .i64 (st.1.length:Int))) []:=by
 refine zF pl Tryz.call30 Tryz.func30 [.tmp 2] fun Q hQ=>?_;exact zE [] hQ
theorem Ba {K P C:Int} {X:List (Nat×Nat)} {N:Nat}:aA Tryz.prog 95 [KC K P C X N] [] (.agg [.lit (.int .i64 K),.lit (.int .i64 P),.lit (.int .i64 C)]) []:=by
 refine zF pl Tryz.call95 Tryz.func95 [.cell 2 93] fun Q hQ=>?_;exact zE [] hQ
def iF (L:List Bool):List Nat:=(List.range ((L.length+7)/8)).map (dC L)
theorem si (L:List Bool):pk L=nl (iF L):=by
 unfold pk kp iF nl;rw[List.map_map]
 rfl
theorem mT (L:List Bool):∀x∈iF L,x<256:=fun x hx=>by
 obtain ⟨j,_,rfl⟩:=akh.1 hx;exact ir L j
theorem gJ (L:List Bool):(iF L).length=(L.length+7)/8:=by simp[iF]
def bc (t:Nat):List Bool:=numBits 1 4++numBits t 3
def bj (N:List Nat):List Bool:=N.flatMap fun n=>ai (n+1)
theorem vQ (N M:List Nat):bj (N++M)=bj N++bj M:=by simp[bj]
theorem je {N:List Nat} {i:Nat} (h:i<N.length):bj (N.take (i+1))=bj (N.take i)++ai (N.getD i 0+1):=by
 rw[gk h,vQ];simp[bj]
theorem cu:∀{N:List Nat},(∀n∈N,n≤1048576)→(bj N).length≤N.length*41
 | [],_=>ajp _
 | n::N,h=>by
   have ih:=cu (N:=N) fun m hm=>h m (by simp[hm]);have hg:=mR (n:=n+1) zo;have hb:=bP (n:=n+1) (k:=21) (by have:=h n (by simp);omega)
   show(ai (n+1)++bj N).length≤_
   rw[ajj,ajr];omega
def uw (k a b:Nat) (s:Nat×Nat×Bool):V:=.agg [.lit (.int .i64 1),.lit (.int .i64 (k:Int)),.lit (.int .i64 (a:Int)),.lit (.int .i64 (b:Int)),.lit (.int .i64 (s.1:Int)),.lit (.int .i64 (s.2.1:Int)),.lit (.bool s.2.2),.lit (.pointer none),.lit (.pointer none),.lit (.pointer none),.lit (.pointer none)]
def OR (v:Nat):V:=.agg [.lit (.int .i64 2),.lit (.int .i64 0),.lit (.int .i64 0),.lit (.int .i64 0),.lit (.int .i64 0),.lit (.int .i64 0),.lit (.bool false),.ref v 0 0 0,.lit (.pointer none),.lit (.pointer none),.lit (.pointer none)]
attribute [go_sem] uw OR
@[go_sem] theorem ahF {z:Nat} {a b c:Value}:Mf (.row z [[.lit a],[.lit b],[.lit c]])=True:=eq_true fun e he p hp=>by
 rcases ajC.1 he with rfl | he
 · rw[akf.1 hp];rfl
 rcases ajC.1 he with rfl | he
 · rw[akf.1 hp];rfl
 rw[akf.1 he] at hp;rw[akf.1 hp];rfl
theorem qj {k a b:Nat}:aA Tryz.prog 90 [pR k a b] [] (.sl 0 1 0 3) [some (.row 1 ((nl [k,a,b]).map (ie .i64)))]:=by
 refine zF pl Tryz.call90 Tryz.func90 [.tmp 2] fun Q hQ=>?_;simp only[nl,ajK,ajQ,ie] at hQ;exact zE [some 1] hQ
theorem qa {k a b:Nat} {s:Nat×Nat×Bool} (h:aL k a b) (w:aP k a b s):aA Tryz.prog 35 [uw k a b s] [] (.lit (.bool true)) []:=by
 have rw':=qS h w;refine zF pl Tryz.call35 Tryz.func35 [.tmp 2] fun Q hQ=>?_;refine ae ?_;refine zC rw' ?_;exact ak [] hQ
theorem kF {k a b:Nat} {s:Nat×Nat×Bool} (h:aL k a b) (w:aP k a b s):aA Tryz.prog 9 [uw k a b s] [] (.lit (.int .i64 0)) []:=by
 have g:=qa h w;refine zF pl Tryz.call9 Tryz.func9 [.tmp 2] fun Q hQ=>?_;refine ae ?_;refine zC g ?_;exact ak [] hQ
theorem wJ {k a b:Nat} {s:Nat×Nat×Bool}:aA Tryz.prog 37 [uw k a b s] [] (.row 1 ((nl [k,a,b]).map (ie .i64))) []:=by
 have o:=qj (k:=k) (a:=a) (b:=b);simp only[nl,ajK,ajQ,ie] at o;refine zF xb Tryz.call37 Tryz.func37 [.tmp 2] fun Q hQ=>?_;simp only[nl,ajK,ajQ,ie] at hQ;refine ae ?_;refine bI (o) ?_;exact zE [] hQ
theorem da (t:Nat):(bc t).length=7:=by
 unfold bc;rw[ajj,aj,aj]
theorem jx {N:List Nat} {m:Nat} (h:∀x∈N,x≤m) (i:Nat):N.getD i 0≤m:=by
 rcases akT i N.length with hi | hi
 · rw[ajk,ajm hi];exact h _ (akA hi)
 · rw[ajk,akP hi];exact ajH _
set_option maxHeartbeats 2000000 in
theorem MA {k a b:Nat} {s:Nat×Nat×Bool} (h:aL k a b) (w:aP k a b s):aA Tryz.prog 10 [uw k a b s] []
 (.tup [.row 1 ((nl (bV (iF (bc 1++bj [k,a,b]++cD k a b s)))).map (ie .u8)),.lit (.int .i64 0)]) []:=by
 have ck:=kF h w;have ns:=wJ (k:=k) (a:=a) (b:=b) (s:=s);have hN3:([k,a,b]:List Nat).length=3:=rfl
 have hNm:∀x∈([k,a,b]:List Nat),x≤1048576:=by
  intro x hx;simp only[ajC,aj5,or_false] at hx;rcases h with h | h | h | h<;>omega
 have hrl:=dL k a b s;have hwl:=AI h;have n1:=cz (L:=[]) (n:=1) (m:=4) zd zd zd zd zd;have n2:=cz (L:=numBits 1 4) (n:=1) (m:=3) zd (by rw[aj];decide) zd zd zd;rw[akq] at n1;have rw1:=fun(L:List Bool) (hL:L.length<1099511600000)=>oY (L:=L) h w hL;generalize [k,a,b]=N at*
 have hnl:=ay N;have hgl:=cu hNm;have hhl:=da 1
 have hbl:(bc 1++bj N++cD k a b s).length≤200:=by
  rw[ajj,ajj];omega
 have e0:numBits 1 4++numBits 1 3=bc 1++bj (N.take 0):=by
  rw[akj];show _=(numBits 1 4++numBits 1 3)++[];rw[ake]
 change aA _ _ _ _ _ [some (jK 2 (numBits 1 4++numBits 1 3)),none,some (jy (numBits 1 4++numBits 1 3))] at n2;rw[e0] at n2;refine zF pl Tryz.call10 Tryz.func10 [.tmp 2,.tmp 3] fun Q hQ=>?_;refine ae ?_;refine zC ck ?_;refine zW [some 1,none] [] n1 ?_;refine zW [some 1,some 3] [] n2 ?_;refine zC ns ?_
 refine aR (X:=Nat) (st:=fun i=>([(1,.ref 0 0 0 0),(5,.ref 1 0 0 0),(23,.row 1 ((nl N).map (ie .i64))),(24,.lit (.int .i64 3)),(25,.lit (.int .i64 (i:Int)))],
  [some (.cells [.lit (.int .i64 1),.lit (.int .i64 (k:Int)),.lit (.int .i64 (a:Int)),.lit (.int .i64 (b:Int)),.lit (.int .i64 (s.1:Int)),.lit (.int .i64 (s.2.1:Int)),.lit (.bool s.2.2),.lit (.pointer none),.lit (.pointer none),.lit (.pointer none),.lit (.pointer none)]),some (jK 2 (bc 1++bj (N.take i))),some (jy (bc 1++bj (N.take i)))]))
  (inv:=fun i=>i≤3) (m:=fun i=>3-i) 0 [some 0,some 1,some 4] (ajH _) ?_
 intro i hi
 by_cases hil:i<3
 · have hg:=bD N i
   have hx:=jx hNm i;have hgl2:=cu (N:=N.take i) fun x hx=>hNm x (ajM hx);have hti:(N.take i).length≤3:=by rw[ajt];omega
   have gm:=dV (L:=bc 1++bj (N.take i)) (n:=N.getD i 0+1) zo zo (by rw[ajj];omega);rw[ajq,←je zo] at gm;generalize N.getD i 0=x at*
   rw[show((x+1:Nat):Int)=(x:Int)+1 by omega] at gm;refine br hg ?_;refine zW [some 1,some 2] [] gm ?_;refine aM (i+1) [some 0,some 1,some 3] zo zo
 · obtain rfl:i=3:=by omega
   rw[ajy zo];have wr:=rw1 (bc 1++bj N) (by rw[ajj];omega);have by_:=gZ (L:=bc 1++bj N++cD k a b s) zo;have sl:=Dh (l:=iF (bc 1++bj N++cD k a b s)) (mT _) (by rw[gJ];omega);rw[si] at by_;refine ae ?_;refine zW [some 1,some 2] [] wr ?_;refine zW [some 1,some 3] [] by_ ?_;refine zC sl ?_;exact ak [] hQ
theorem zf {α:Type} [Inhabited α] {A B:List α} {i:Nat} (ha:i<A.length) (hb:i<B.length):A.take (i+1)=B.take (i+1)↔A.take i=B.take i∧A.getD i default=B.getD i default:=by
 rw[ajN ha,ajN hb];have e1:A.getD i default=A[i]:=by rw[ajk,ajm ha];rfl
 have e2:B.getD i default=B[i]:=by rw[ajk,ajm hb];rfl
 rw[e1,e2];constructor
 · intro h
   have:=List.append_inj h (by rw[ajt,ajt];omega)
   exact⟨this.1,by simpa using this.2⟩
 · rintro ⟨h1,h2⟩
   rw[h1,h2]
theorem Fx {A B:List Cell} (hA:A.length≤1000000) (hB:B.length≤1000000):aA Tryz.prog 116 [.row 2 (A.map cV),.row 2 (B.map cV)] [] (.lit (.bool (decide (A=B)))) []:=by
 refine zF NA Tryz.call116 Tryz.func116 [.tmp 4] fun Q hQ=>?_
 by_cases hl:A.length=B.length
 · refine ae ?_
   refine aR (X:=Nat) (st:=fun i=>([(0,.row 2 (A.map cV)),(1,.row 2 (B.map cV)),(12,.lit (.int .i64 (A.length:Int))),(13,.lit (.int .i64 (i:Int)))],[]))
    (inv:=fun i=>i≤A.length∧A.take i=B.take i) (m:=fun i=>A.length-i) 0 [] ⟨by omega,by simp⟩ ?_
   rintro i ⟨hi,ht⟩
   by_cases h:i<A.length
   · have hs:=zf h (show i<B.length by omega)
     have hne:A.getD i default≠B.getD i default→¬A=B:=fun h e=>h (by rw[e]);obtain ⟨⟨a1,a2⟩,ea⟩:∃a,A.getD i default=a:=⟨_,rfl⟩;obtain ⟨⟨b1,b2⟩,eb⟩:∃b,B.getD i default=b:=⟨_,rfl⟩;rw[ea,eb] at hs hne
     by_cases e1:a1=b1
     · by_cases e2:a2=b2
       · have hs':=hs.2 ⟨ht,by rw[e1,e2]⟩
         subst e1 e2;refine ej ea eb ?_;refine aM (i+1) [] ⟨by omega,hs'⟩ zo
       · rw[ajn (hne (fun e=>e2 (by injection e)))] at hQ
         have e2':¬(a2:Int)=(b2:Int):=by omega
         subst e1;refine qZ ea eb (ajn e2') ?_;exact ak [] hQ
     · rw[ajn (hne (fun e=>e1 (by injection e)))] at hQ
       have e1':¬(a1:Int)=(b1:Int):=by omega
       refine QK ea eb (ajn e1') ?_;exact ak [] hQ
   · obtain rfl:i=A.length:=by omega
     rw[ajz,hl,ajz] at ht;rw[aju ht] at hQ;exact zE [] hQ
 · rw[ajn (fun e=>hl (by rw[e]))] at hQ
   exact zE [] hQ
theorem rj {W:List Nat} (hL:W.length≤9223372036854775807):aA Tryz.prog 29 [.row 1 ((nl W).map (ie .u64))] [] (.row 1 ((nl (W.take 12)).map (ie .u64))) []:=by
 have e:nl (W.take 12)=(nl W).take 12:=by simp[nl,als]
 have hn:=ay W;rw[e];refine zF pl Tryz.call29 Tryz.func29 [.tmp 2] fun Q hQ=>?_
 by_cases h:12<W.length
 · refine afL ?_
   exact ak [] hQ
 · have e2:(nl W).take 12=nl W:=ajy zo
   rw[e2] at hQ;exact zE [] hQ
def Sw (R C k a b:Int) (W:List Nat):List V:=[.lit (.int .i64 R),.lit (.int .i64 C),.lit (.int .i64 k),.lit (.int .i64 a),.lit (.int .i64 b),.row 1 ((nl W).map (ie .u64))]
attribute [go_sem] Sw
def mq (W:List Nat) (i:Nat):Nat:=if i<W.length then W.getD i 0%2305843009213693951 else i+1
theorem xL {W:List Nat} {i:Nat} (hi:i≤100):mq W i<2305843009213693951:=by
 unfold mq
 split
 · exact ajI _ zd
 · omega
theorem xr {R C k a b:Int} {W:List Nat} {i:Nat} (hi:i≤100) (hW:W.length≤9223372036854775807) (hk:∀x∈W,x<18446744073709551616):aA Tryz.prog 84 [.lit (.int .i64 (i:Int)),.ref 0 0 0 0] [some (.cells (Sw R C k a b W))] (.lit (.int .u64 (mq W i:Int))) [some (.cells (Sw R C k a b W))]:=by
 have hn:=ay W;have hg:(nl W).getD i 0=((W.getD i 0:Nat):Int):=bD W i;unfold mq;refine zF pl Tryz.call84 Tryz.func84 [.tmp 3] fun Q hQ=>?_
 by_cases h:i<W.length
 · rw[if_pos h] at hQ
   have hm:((W.getD i 0:Nat):Int).tmod 2305843009213693951=((W.getD i 0%2305843009213693951:Nat):Int):=by
    rw[ak5 zo];omega
   generalize W.getD i 0=x at*
   refine ej hg hm ?_;exact ak [some 0] hQ
 · rw[if_neg h] at hQ
   have hi1:((i+1:Nat):Int)=(i:Int)+1:=by omega
   rw[hi1] at hQ;exact zE [some 0] hQ
def kD (W:List Nat) (m:Nat):List (Nat×Nat):=(List.range m).map fun i=>(mq W (2*i),mq W (2*i+1))
theorem yi {R C k a b:Int} {W:List Nat} {m:Nat} (hm:R%4=(m:Int)) (hW:W.length≤9223372036854775807) (hk:∀x∈W,x<18446744073709551616):aA Tryz.prog 33 [.agg (Sw R C k a b W)] [] (.row 2 ((kD W (m+1)).map hV)) []:=by
 have hn:=ay W;have m1:cv .and .i64 R 3=R%4:=eu (k:=.i64) (j:=2) (a:=R) zd;have hm4:m≤3:=by omega
 have hmm:(1:Int)+(m:Int)=((m+1:Nat):Int):=by omega
 refine zF pl Tryz.call33 Tryz.func33 [.tmp 2] fun Q hQ=>?_;refine qZ m1 hm hmm ?_
 refine aT (X:=Nat) (st:=fun i=>([(3,.sl 1 2 0 i),(4,.clo 84 [.ref 0 0 0 0]),(10,.lit (.int .i64 ((m+1:Nat):Int))),(11,.lit (.int .i64 (i:Int)))],[some (.cells (Sw R C k a b W)),some (.row 2 ((kD W i).map hV))]))
  (inv:=fun i=>i≤m+1) (m:=fun i=>m+1-i) 0 [some 0,none] rfl ?_ zM (ajH _) ?_
 · dsimp only
   (simp(disch:=(first | omega | (simp only[cQ,ajl,ajo,true_and,and_true];(try omega);done) | fail)) only[go_sem,Int.reduceEq,Int.reduceToNat,Nat.reduceAdd,Nat.reduceMul,Nat.reduceEqDiff, ↓reduceIte,true_and,and_true,and_self,ajE,ajz,ajp,V.lit.injEq,Value.int.injEq,Value.bool.injEq];try (first | omega | (simp;done) | (simp;omega)))
   rfl
 intro i hi
 by_cases hil:i<m+1
 · have n1:=xr (R:=R) (C:=C) (k:=k) (a:=a) (b:=b) (W:=W) (i:=2*i) zo hW hk
   have n2:=xr (R:=R) (C:=C) (k:=k) (a:=a) (b:=b) (W:=W) (i:=2*i+1) zo hW hk;have ht:kD W (i+1)=kD W i++[(mq W (2*i),mq W (2*i+1))]:=by unfold kD;rw[al0,akX];rfl
   have hl:(kD W i).length=i:=by unfold kD;rw[ajl,ajo]
   have e1:(2:Int)*(i:Int)=((2*i:Nat):Int):=by omega
   have e2:((2*i:Nat):Int)+1=((2*i+1:Nat):Int):=by omega
   generalize kD W i=l at*
   generalize mq W (2*i)=x at*
   generalize mq W (2*i+1)=y at*
   refine ej e1 e2 ?_;refine aF [some 0] [] (n1) ?_;refine ej e1 e2 ?_;refine zW [some 0] [] n2 ?_;refine aH (i+1) [some 0,some 3] rfl ?_ zM zo zo;dsimp only;rw[ht,List.map_append];simp only[List.map_cons,List.map_nil,hV]
   (simp(disch:=(first | omega | (simp only[cQ,ajl,ajo,true_and,and_true];(try omega);done) | fail)) only[go_sem,Int.reduceEq,Int.reduceToNat,Nat.reduceAdd,Nat.reduceMul,Nat.reduceEqDiff, ↓reduceIte,true_and,and_true,and_self,ajE,ajz,ajp,V.lit.injEq,Value.int.injEq,Value.bool.injEq];try (first | omega | (simp;done) | (simp;omega)))
 · obtain rfl:i=m+1:=by omega
   have hle:(kD W (m+1)).length=m+1:=by unfold kD;rw[ajl,ajo]
   generalize kD W (m+1)=l at*
   generalize m+1=n at*
   subst hle;exact zE [] hQ
theorem zA {R C kk aa bb:Int} {W:List Nat} {m c k a b:Nat} (hm:R%4=(m:Int)) (hc:C%256%64=(c:Int)) (hs:∀(s:Int×Int×Bool),aA Tryz.prog 22 [.agg [.lit (.int .i64 kk),.lit (.int .i64 aa),.lit (.int .i64 bb)],.agg [.lit (.int .i64 s.1),.lit (.int .i64 s.2.1),.lit (.bool s.2.2)]] [] (.tup [pR k a b,sR (wi k a b s)]) []):
 aA Tryz.prog 32 [.agg (Sw R C kk aa bb W)] [] (.agg [.lit (.int .i64 ((m+1:Nat):Int)),.lit (.int .i64 ((c+1:Nat):Int)),.lit (.int .i64 (k:Int)),.lit (.int .i64 (a:Int)),.lit (.int .i64 (b:Int))]) []:=by
 have m1:cv .and .i64 R 3=R%4:=eu (k:=.i64) (j:=2) (a:=R) zd;have m2:cv .and .i64 C 255=C%256:=eu (k:=.i64) (j:=8) (a:=C) zd;have ht:(C%256).tmod 64=(c:Int):=by rw[ak5 zo];exact hc
 have h0:=hs (0,0,false);have ow:=kE (k:=k) (a:=a) (b:=b);have e1:(1:Int)+(m:Int)=((m+1:Nat):Int):=by omega
 have e2:(1:Int)+(c:Int)=((c+1:Nat):Int):=by omega
 have hc64:c<64:=by omega
 have hm4:m<4:=by omega
 dsimp only at h0;refine zF X5 Tryz.call32 Tryz.func32 [.cell 2 88] fun Q hQ=>?_;refine ae ?_;refine aB (h0) rfl rfl ?_;refine vd m1 m2 hm ht e1 e2 ?_;refine aB (ow) rfl rfl ?_;refine vd m1 m2 hm ht e1 e2 ?_;exact ak [] hQ
end Go.Proofs.YtcnlmelpnflhnaaGreat
