import Derived.Test.YtcnlmelpnflhnaaGreatAe
import Derived.Test.YtcnlmelpnflhnaaGreatNi
import Derived.Test.YtcnlmelpnflhnaaGreatAb
import Derived.Test.YtcnlmelpnflhnaaGreatRh
import Derived.Test.YtcnlmelpnflhnaaGreatOb
import Derived.Test.YtcnlmelpnflhnaaGreatE6
import Derived.Test.YtcnlmelpnflhnaaGreatE7
import Derived.Test.YtcnlmelpnflhnaaGreatE8
import Derived.Test.YtcnlmelpnflhnaaGreatHc
import Derived.Test.YtcnlmelpnflhnaaGreatLa
namespace Go.Proofs.YtcnlmelpnflhnaaGreat
open Go.Eng Go.Vx
set_option linter.unusedSimpArgs false
set_option linter.unusedVariables false
set_option maxRecDepth 100000
def HL (B:List Int) (p:Nat):V:=.rref 2 [[.row 1 (B.map (ie .u8)),.lit (.int .i64 (p:Int))]] 0 0
attribute [go_sem] HL
theorem HC {M D S n:Nat} (h:zZ M D S) (hn:1≤n∧n≤256):aC Tryz.prog 26 [pA M D S,.lit (.int .i64 (n:Int))] [] (.tup [.ref 0 0 0 0,.lit (.int .i64 0)])
 [some (LB M D S 1 n 1 false),some (.row 2 ((List.replicate n ((0:Nat),(0:Nat))).map cV))]:=by
 have hc:=Dl h;have w:=jh (n:=(n:Int)) (m:=256);rw[agC (show(1:Int)≤(n:Int)∧(n:Int)≤256 by omega)] at w;have e:(List.replicate n ((0:Nat),(0:Nat))).map cV=dy [.int .i64 0,.int .i64 0] n:=by rw[List.map_replicate];rfl
 have el:(dy [Value.int IntKind.i64 0,Value.int IntKind.i64 0] n).length=n:=by unfold dy;rw[agN]
 refine zF Tk Tryz.call26 Tryz.func26 [.tmp 4,.tmp 5] fun Q hQ=>?_;unfold LB at hQ;rw[e,show((1:Nat):Int)=1 from rfl] at hQ;refine ae ?_;refine zC hc ?_;refine zC w ?_;generalize dy [Value.int IntKind.i64 0,Value.int IntKind.i64 0] n=zr at*
 exact ak [some 2,some 1] hQ
def srV (r:Option SS×Nat×Int):V:=match r.1 with
 | some _=>.tup [.ref 1 0 0 0,.lit (.int .i64 0)]
 | none=>.tup [.lit (.pointer none),.lit (.int .i64 r.2.2)]
def srS (M D S:Nat) (B:List Int) (r:Option SS×Nat×Int):St:=match r.1 with
 | some x=> [some (nB B r.2.1),some (DG M D S x)]
 | none=> [some (nB B r.2.1)]
def adC (c bit:Nat):Nat:=if c%2=bit then c/2 else(c/2)^^^3988292384
def bst (x b k:Nat):Nat:=bL x k^^^(b/2^k)
theorem gk {L:List Bool} (hm:L.length<1099511627776):aC Tryz.prog 45 [.ref 0 0 0 0] [some (jf 1 L),some (iY L)] (.row 1 ((pk L).map (ie .u8))) [some (jf 1 L),some (iY L)]:=by
 refine zF pl Tryz.call45 Tryz.func45 [.tmp 2] fun Q hQ=>?_;have hpl:=j1 L;have e:List.take 0 (List.replicate (pk L).length (0:Int))++List.take (pk L).length (pk L)++List.drop (List.take (pk L).length (pk L)).length (List.replicate (pk L).length 0)=pk L:=by simp
 refine ae ?_;rw[e];exact ak [some 0,some 1] hQ
def three (k x:Nat):List Bool:=numBits x (k+1)++ED (x ||| 1)++cF x
def jF (L:List Bool):List Nat:=(List.range ((L.length+7)/8)).map (dh L)
theorem qD (L:List Bool):pk L=nl (jF L):=by
 unfold pk jM jF nl;rw[List.map_map]
 rfl
theorem lM (L:List Bool):∀x∈jF L,x<256:=fun x hx=>by
 obtain ⟨j,_,rfl⟩:=aho.1 hx;exact gE L j
theorem fV (L:List Bool):(jF L).length=(L.length+7)/8:=by simp[jF]
def bI (t:Nat):List Bool:=numBits 1 4++numBits t 3
def bQ (N:List Nat):List Bool:=N.flatMap fun n=>aq (n+1)
theorem Ay (N M:List Nat):bQ (N++M)=bQ N++bQ M:=by simp[bQ]
theorem iG {N:List Nat} {i:Nat} (h:i<N.length):bQ (N.take (i+1))=bQ (N.take i)++aq (N.getD i 0+1):=by
 rw[fG h,Ay];simp[bQ]
theorem cy:∀{N:List Nat},(∀n∈N,n≤1048576)→(bQ N).length≤N.length*41
 | [],_=>agt _
 | n::N,h=>by
   have ih:=cy (N:=N) fun m hm=>h m (by simp[hm]);have hg:=lK (n:=n+1) zo;have hb:=bB (n:=n+1) (k:=21) (by have:=h n (by simp);omega)
   show(aq (n+1)++bQ N).length≤_
   rw[agn,agu];omega
def CL (k a b:Nat) (s:Nat×Nat×Bool):V:=.agg [.lit (.int .i64 1),.lit (.int .i64 (k:Int)),.lit (.int .i64 (a:Int)),.lit (.int .i64 (b:Int)),.lit (.int .i64 (s.1:Int)),.lit (.int .i64 (s.2.1:Int)),.lit (.bool s.2.2),.lit (.pointer none),.lit (.pointer none),.lit (.pointer none),.lit (.pointer none)]
def itA (v:Nat):V:=.agg [.lit (.int .i64 2),.lit (.int .i64 0),.lit (.int .i64 0),.lit (.int .i64 0),.lit (.int .i64 0),.lit (.int .i64 0),.lit (.bool false),.ref v 0 0 0,.lit (.pointer none),.lit (.pointer none),.lit (.pointer none)]
attribute [go_sem] CL itA
@[go_sem] theorem aei {z:Nat} {a b c:Value}:JJ (.row z [[.lit a],[.lit b],[.lit c]])=True:=eq_true fun e he p hp=>by
 rcases agG.1 he with rfl | he
 · rw[ahf.1 hp];rfl
 rcases agG.1 he with rfl | he
 · rw[ahf.1 hp];rfl
 rw[ahf.1 he] at hp;rw[ahf.1 hp];rfl
theorem oZ {k a b:Nat}:aC Tryz.prog 90 [pR k a b] [] (.sl 0 1 0 3) [some (.row 1 ((nl [k,a,b]).map (ie .i64)))]:=by
 refine zF pl Tryz.call90 Tryz.func90 [.tmp 2] fun Q hQ=>?_;simp only[nl,agR,ag2,ie] at hQ;exact zE [some 1] hQ
theorem ub {k a b:Nat} {s:Nat×Nat×Bool} (h:aT k a b) (w:aP k a b s):aC Tryz.prog 35 [CL k a b s] [] (.lit (.bool true)) []:=by
 have rw':=pL h w;refine zF pl Tryz.call35 Tryz.func35 [.tmp 2] fun Q hQ=>?_;refine ae ?_;refine zC rw' ?_;exact ak [] hQ
theorem mh {k a b:Nat} {s:Nat×Nat×Bool} (h:aT k a b) (w:aP k a b s):aC Tryz.prog 9 [CL k a b s] [] (.lit (.int .i64 0)) []:=by
 have g:=ub h w;refine zF pl Tryz.call9 Tryz.func9 [.tmp 2] fun Q hQ=>?_;refine ae ?_;refine zC g ?_;exact ak [] hQ
theorem uz {k a b:Nat} {s:Nat×Nat×Bool}:aC Tryz.prog 37 [CL k a b s] [] (.row 1 ((nl [k,a,b]).map (ie .i64))) []:=by
 have o:=oZ (k:=k) (a:=a) (b:=b);simp only[nl,agR,ag2,ie] at o;refine zF uT Tryz.call37 Tryz.func37 [.tmp 2] fun Q hQ=>?_;simp only[nl,agR,ag2,ie] at hQ;refine ae ?_;refine dB (o) ?_;exact zE [] hQ
theorem eo (t:Nat):(bI t).length=7:=by
 unfold bI;rw[agn,ai,ai]
theorem iX {N:List Nat} {m:Nat} (h:∀x∈N,x≤m) (i:Nat):N.getD i 0≤m:=by
 rcases ahV i N.length with hi | hi
 · rw[ago,agp hi];exact h _ (ahB hi)
 · rw[ago,ahS hi];exact agM _
set_option maxHeartbeats 2000000 in
theorem J2 {k a b:Nat} {s:Nat×Nat×Bool} (h:aT k a b) (w:aP k a b s):aC Tryz.prog 10 [CL k a b s] []
 (.tup [.row 1 ((nl (cU (jF (bI 1++bQ [k,a,b]++cW k a b s)))).map (ie .u8)),.lit (.int .i64 0)]) []:=by
 have ck:=mh h w;have ns:=uz (k:=k) (a:=a) (b:=b) (s:=s);have hN3:([k,a,b]:List Nat).length=3:=rfl
 have hNm:∀x∈([k,a,b]:List Nat),x≤1048576:=by
  intro x hx;simp only[agG,ahd,or_false] at hx;rcases h with h | h | h | h<;>omega
 have hrl:=dN k a b s;have hwl:=yr h;have n1:=bW (L:=[]) (n:=1) (m:=4) zd zd zd zd zd;have n2:=bW (L:=numBits 1 4) (n:=1) (m:=3) zd (by rw[ai];decide) zd zd zd;rw[aht] at n1;have rw1:=fun(L:List Bool) (hL:L.length<1099511600000)=>nN (L:=L) h w hL;generalize [k,a,b]=N at*
 have hnl:=aD N;have hgl:=cy hNm;have hhl:=eo 1
 have hbl:(bI 1++bQ N++cW k a b s).length≤200:=by
  rw[agn,agn];omega
 have e0:numBits 1 4++numBits 1 3=bI 1++bQ (N.take 0):=by
  rw[ahk];show _=(numBits 1 4++numBits 1 3)++[];rw[ahj]
 change aC _ _ _ _ _ [some (jf 2 (numBits 1 4++numBits 1 3)),none,some (iY (numBits 1 4++numBits 1 3))] at n2;rw[e0] at n2;refine zF pl Tryz.call10 Tryz.func10 [.tmp 2,.tmp 3] fun Q hQ=>?_;refine ae ?_;refine zC ck ?_;refine zW [some 1,none] [] n1 ?_;refine zW [some 1,some 3] [] n2 ?_;refine zC ns ?_
 refine aU (X:=Nat) (st:=fun i=>([(1,.ref 0 0 0 0),(5,.ref 1 0 0 0),(23,.row 1 ((nl N).map (ie .i64))),(24,.lit (.int .i64 3)),(25,.lit (.int .i64 (i:Int)))],
  [some (.cells [.lit (.int .i64 1),.lit (.int .i64 (k:Int)),.lit (.int .i64 (a:Int)),.lit (.int .i64 (b:Int)),.lit (.int .i64 (s.1:Int)),.lit (.int .i64 (s.2.1:Int)),.lit (.bool s.2.2),.lit (.pointer none),.lit (.pointer none),.lit (.pointer none),.lit (.pointer none)]),some (jf 2 (bI 1++bQ (N.take i))),some (iY (bI 1++bQ (N.take i)))]))
  (inv:=fun i=>i≤3) (m:=fun i=>3-i) 0 [some 0,some 1,some 4] (agM _) ?_
 intro i hi
 by_cases hil:i<3
 · have hg:=bg N i
   have hx:=iX hNm i;have hgl2:=cy (N:=N.take i) fun x hx=>hNm x (ag5 hx);have hti:(N.take i).length≤3:=by rw[agz];omega
   have gm:=dC (L:=bI 1++bQ (N.take i)) (n:=N.getD i 0+1) zo zo (by rw[agn];omega);rw[agw,←iG zo] at gm;generalize N.getD i 0=x at*
   rw[show((x+1:Nat):Int)=(x:Int)+1 by omega] at gm;refine bh hg ?_;refine zW [some 1,some 2] [] gm ?_;refine aO (i+1) [some 0,some 1,some 3] zo zo
 · obtain rfl:i=3:=by omega
   rw[agB zo];have wr:=rw1 (bI 1++bQ N) (by rw[agn];omega);have by_:=gk (L:=bI 1++bQ N++cW k a b s) zo;have sl:=Ku (l:=jF (bI 1++bQ N++cW k a b s)) (lM _) (by rw[fV];omega);rw[qD] at by_;refine ae ?_;refine zW [some 1,some 2] [] wr ?_;refine zW [some 1,some 3] [] by_ ?_;refine zC sl ?_;exact ak [] hQ
theorem yY {α:Type} [Inhabited α] {A B:List α} {i:Nat} (ha:i<A.length) (hb:i<B.length):A.take (i+1)=B.take (i+1)↔A.take i=B.take i∧A.getD i default=B.getD i default:=by
 rw[agW ha,agW hb];have e1:A.getD i default=A[i]:=by rw[ago,agp ha];rfl
 have e2:B.getD i default=B[i]:=by rw[ago,agp hb];rfl
 rw[e1,e2];constructor
 · intro h
   have:=List.append_inj h (by rw[agz,agz];omega)
   exact⟨this.1,by simpa using this.2⟩
 · rintro ⟨h1,h2⟩
   rw[h1,h2]
theorem B6 {A B:List (Nat×Nat)} (hA:A.length≤1000000) (hB:B.length≤1000000):aC Tryz.prog 120 [.row 2 (A.map sV),.row 2 (B.map sV)] [] (.lit (.bool (decide (A=B)))) []:=by
 refine zF Lp Tryz.call120 Tryz.func120 [.tmp 4] fun Q hQ=>?_
 by_cases hl:A.length=B.length
 · refine ae ?_
   refine aU (X:=Nat) (st:=fun i=>([(0,.row 2 (A.map sV)),(1,.row 2 (B.map sV)),(12,.lit (.int .i64 (A.length:Int))),(13,.lit (.int .i64 (i:Int)))],[]))
    (inv:=fun i=>i≤A.length∧A.take i=B.take i) (m:=fun i=>A.length-i) 0 [] ⟨by omega,by simp⟩ ?_
   rintro i ⟨hi,ht⟩
   by_cases h:i<A.length
   · have hs:=yY h (show i<B.length by omega)
     have hne:A.getD i default≠B.getD i default→¬A=B:=fun h e=>h (by rw[e]);obtain ⟨⟨a1,a2⟩,ea⟩:∃a,A.getD i default=a:=⟨_,rfl⟩;obtain ⟨⟨b1,b2⟩,eb⟩:∃b,B.getD i default=b:=⟨_,rfl⟩;rw[ea,eb] at hs hne
     by_cases e1:a1=b1
     · by_cases e2:a2=b2
       · have hs':=hs.2 ⟨ht,by rw[e1,e2]⟩
         subst e1 e2;refine dK ea eb ?_;refine aO (i+1) [] ⟨by omega,hs'⟩ zo
       · rw[agq (hne (fun e=>e2 (by injection e)))] at hQ
         have e2':¬(a2:Int)=(b2:Int):=by omega
         subst e1;refine rD ea eb (agq e2') ?_;exact ak [] hQ
     · rw[agq (hne (fun e=>e1 (by injection e)))] at hQ
       have e1':¬(a1:Int)=(b1:Int):=by omega
       refine NW ea eb (agq e1') ?_;exact ak [] hQ
   · obtain rfl:i=A.length:=by omega
     rw[agF,hl,agF] at ht;rw[agC ht] at hQ;exact zE [] hQ
 · rw[agq (fun e=>hl (by rw[e]))] at hQ
   exact zE [] hQ
theorem FQ {K P C:Int} {X Y:List (Nat×Nat)} {N M:Nat} (hX:X.length≤1000000) (hY:Y.length≤1000000):aC Tryz.prog 59 [Ib K P C X N,Ib K P C Y M] [] (.lit (.bool (decide (N=M∧X=Y)))) []:=by
 have q:=B6 hX hY;refine zF NF Tryz.call59 Tryz.func59 [.tmp 4] fun Q hQ=>?_
 by_cases h:N=M
 · subst h
   rw[show decide (N=N∧X=Y)=decide (X=Y) by simp] at hQ;refine ae ?_;refine zC q ?_;exact ak [] hQ
 · have h':¬(N:Int)=(M:Int):=by omega
   rw[agq (fun e=>h e.1)] at hQ;refine bh (agq h') ?_;exact ak [] hQ
def rfC (X:List (Nat×Nat)) (N:Nat) (L:List Bool) (p:Nat) (e:Int):List V:=[.row 2 (X.map sV),.lit (.int .i64 (N:Int)),.row 1 (L.map be),.lit (.int .i64 (p:Int)),.lit (.int .i64 e)]
def rfV (X:List (Nat×Nat)) (N:Nat) (L:List Bool) (p:Nat) (e:Int):V:=.agg (rfC X N L p e)
attribute [go_sem] rfC rfV
def afs (L:List Bool) (N key:Nat) (X:List (Nat×Nat)) (p:Nat):List (Nat×Nat)×Nat×Int:=match fm L (N+1) key X p with | some r=>(r.1,r.2,0) | none=>(X,L.length,8)
end Go.Proofs.YtcnlmelpnflhnaaGreat
