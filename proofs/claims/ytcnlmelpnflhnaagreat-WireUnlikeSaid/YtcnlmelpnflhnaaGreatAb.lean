import Derived.Test.YtcnlmelpnflhnaaGreatN2
import Derived.Test.YtcnlmelpnflhnaaGreatD3
import Derived.Test.YtcnlmelpnflhnaaGreatFa
import Derived.Test.YtcnlmelpnflhnaaGreatFw
import Derived.Test.YtcnlmelpnflhnaaGreatHf
import Derived.Test.YtcnlmelpnflhnaaGreatOb
import Derived.Test.YtcnlmelpnflhnaaGreatAa
import Derived.Test.YtcnlmelpnflhnaaGreatLa
import Derived.Test.YtcnlmelpnflhnaaGreatHc
import Derived.Test.YtcnlmelpnflhnaaGreatNi
namespace Go.Proofs.YtcnlmelpnflhnaaGreat
open Go.Eng Go.Vx
set_option linter.unusedSimpArgs false
set_option linter.unusedVariables false
set_option maxRecDepth 100000
theorem KE {n:Nat} (hn:(wg n).length≤4000000):aC Tryz.prog 226 [NV n] [] (.lit (.int .i64 (bl n:Int))) []:=by
 refine zF pl Tryz.call226 Tryz.func226 [.tmp 2] fun Q hQ=>?_;have hnl:=aD (wg n)
 by_cases h:n=0
 · subst h
   rw[H9] at hQ;refine bh @ej ?_;exact ak [] hQ
 · obtain ⟨h1,h2,h3⟩:=xS h
   have hg:=bg (wg n) ((wg n).length-1);have hd:decide (((nl (wg n)).length:Int)=0)=false:=agq zo;have hix:(((nl (wg n)).length:Int)-1).toNat=(wg n).length-1:=by omega
   have h64:=j8 (n:=(wg n).getD ((wg n).length-1) 0) h2;rw[h3] at hQ;generalize (wg n).getD ((wg n).length-1) 0=t at*
   have hbt:=bB (n:=t) (k:=64) zo;have hsum:64*(((nl (wg n)).length:Int)-1)+(bl t:Int)=((64*((wg n).length-1)+bl t:Nat):Int):=by omega
   refine rD hd hix hg ?_;refine az (h64) rfl rfl ?_;refine bh hsum ?_;exact ak [] hQ
def pwI (a n:Nat) (z:Nat×Nat×Nat):Prop:=∃i,z.1=a^2^i∧z.2.1=a^(n%2^i)∧z.2.2=n/2^i
theorem tA {v N:Nat} (hN:N≤8192) (hv:(wg v).length≤1000000):aC Tryz.prog 131 [NV v,.lit (.int .i64 (N:Int))] [] (.tup [NV (v*2^N),.lit (.int .i64 0)]) []:=by
 refine zF Ml Tryz.call131 Tryz.func131 [.cell 4 157,.tmp 5] fun Q hQ=>?_;have hnl:=aD (wg v);have hq:(N:Int)/64=((N/64:Nat):Int):=by omega
 have hs:(N:Int)%64=((N%64:Nat):Int):=by omega
 have hm:=qm (W:=wg v) (s:=N%64) (eB v) zo zo;rw[dU] at hm;have hF:=cj (B:=18446744073709551616) ((wg v).length+1) (v*2^(N%64));have hFl:=nV (B:=18446744073709551616) zd ((wg v).length+1) (v*2^(N%64))
 have hFv:aA 18446744073709551616 (fw 18446744073709551616 ((wg v).length+1) (v*2^(N%64)))=v*2^(N%64):=by
  rw[jN zd,agL];have h1:v<18446744073709551616^(wg v).length:=fr (B:=18446744073709551616) zd v
  have h2:2^(N%64)≤18446744073709551616:=by
   rw[show(18446744073709551616:Nat)=2^64 from rfl];exact agA zd zo
  rw[agS];exact ag6 (aiB h1 (agV zd)) (ahl _ h2)
 have hval:aA 18446744073709551616 (List.replicate (N/64) 0++fw 18446744073709551616 ((wg v).length+1) (v*2^(N%64)))=v*2^N:=by
  rw[iR,qJ,agN,agU,hFv,show(18446744073709551616:Nat)=2^64 from rfl,←Nat.pow_mul,ahZ,←ahq,agT]
 have hall:∀d∈List.replicate (N/64) 0++fw 18446744073709551616 ((wg v).length+1) (v*2^(N%64)),d<18446744073709551616:=fun d hd=>by
  rcases ah2.1 hd with h | h
  · rw[aib h];decide
  · exact hFl d h
 have hlen:(List.replicate (N/64) 0++fw 18446744073709551616 ((wg v).length+1) (v*2^(N%64))).length≤4000000:=by
  rw[agn,agN,hF];omega
 have hsplit:nl (List.replicate (N/64) 0++fw 18446744073709551616 ((wg v).length+1) (v*2^(N%64)))=nl (List.replicate (N/64) 0)++nl (fw 18446744073709551616 ((wg v).length+1) (v*2^(N%64))):=by unfold nl;rw[ah4]
 have hrep:=lB (N/64);generalize fw 18446744073709551616 ((wg v).length+1) (v*2^(N%64))=F at*
 clear hFv;generalize N/64=q at*
 generalize N%64=s at*
 have hnF:=aD F;rw[←hF] at hm;refine dK hq hs ?_;refine dB (hm) ?_;have htk:List.take F.length (nl F)=nl F:=agB zo
 have happ:List.map (ie .u64) (List.replicate q 0++nl F)=List.map (ie .u64) (nl (List.replicate q 0++F)):=by
  rw[hsplit,hrep]
 have hll:q+(nl F).length=(List.replicate q 0++F).length:=by rw[agn,agN,hnF]
 refine Of hq hs htk happ hll ?_;have hnl4:=aD (List.replicate q 0++F);refine aV [] [4] (dc (l:=List.replicate q 0++F) hall hlen) ?_;rw[hval];exact zE [] hQ
theorem vE {A B:Nat} (hB:B≠0):¬(((A:Int):Rat)/((B:Int):Rat)).num<0:=by
 have h:=oK (p:=(A:Int)) (q:=(B:Int)) zo;rw[agq (show¬(A:Int)<0 by omega),agq (show¬(B:Int)<0 by omega)] at h;rw[←h];exact sY hB
theorem GN {a:Int} (h0: -9223372036854775808≤a) (h1:a≤9223372036854775807):RS 1 (a:Rat):=qQ (Nk h0 h1) zd
abbrev SR:=Nat×Nat×Bool
def jx (k a b:Nat) (s:SR):Nat:=numOf (cW k a b s)
def nuA (k a b n:Nat) (l:List SR):List Nat:=l.map (jx k a b)++List.replicate (n-l.length) 0
theorem lA (k a b:Nat) (s:SR):jx k a b s<2^wd k a b:=by
 have:=fE (cW k a b s)
 rw[dN] at this;exact this
def xH (L:List Bool) (k a b:Nat):Nat→Nat→Option (List SR)×Nat×Int
 | 0,p=>(some [],p,0)
 | n+1,p=>match uv L k a b p with
   | (some s,q,_)=>((xH L k a b n q).1.map (s:: ·),(xH L k a b n q).2)
   | (none,q,e)=>(none,q,e)
theorem Ou {L:List Bool} {k a b p:Nat} (h:p≤L.length):(uv L k a b p).2.1≤L.length:=by
 unfold uv
 split
 · split<;>assumption
 · exact h
theorem AI {L:List Bool} {k a b p:Nat}:((uv L k a b p).1=none→(uv L k a b p).2.2≠0)∧(∀s,(uv L k a b p).1=some s→(uv L k a b p).2.2=0∧aP k a b s):=by
 unfold uv
 split
 · split
   · rename_i h
     refine⟨fun h=>(by cases h),fun s hs=>?_⟩
     cases hs
     exact⟨rfl,h⟩
   · exact⟨fun _=>(show(4:Int)≠0 by decide),fun s hs=>(by cases hs)⟩
 · exact⟨fun _=>(show(5:Int)≠0 by decide),fun s hs=>(by cases hs)⟩
theorem mz {L:List Bool} {k a b n p:Nat}:xH L k a b (n+1) p=match uv L k a b p with
 | (some s,q,_)=>((xH L k a b n q).1.map (s:: ·),(xH L k a b n q).2)
 | (none,q,e)=>(none,q,e):=(rfl)
def crV (r:Option (List SR)×Nat×Int):V:=match r.1 with
 | some _=>.tup [.ref 1 0 0 0,.lit (.int .i64 0)]
 | none=>.tup [.lit (.pointer none),.lit (.int .i64 r.2.2)]
def crS (k a b n:Nat) (B:List Int) (r:Option (List SR)×Nat×Int):St:=match r.1 with
 | some l=> [some (nB B r.2.1),some (cN 2 k a b),some (cB 3 n (wd k a b)),some (cf n (wd k a b) (bF (wd k a b) (l.map (jx k a b))))]
 | none=> [some (nB B r.2.1)]
theorem N7 {L:List Bool} {k a b:Nat}:∀{n p:Nat},p≤L.length→(xH L k a b n p).2.1≤L.length
 | 0,p,h=>h
 | n+1,p,h=>by
   rw[mz];have h1:=Ou (k:=k) (a:=a) (b:=b) h;generalize uv L k a b p=v at*
   obtain ⟨o,q,e⟩:=v
   cases o with
   | none=>exact h1
   | some s=>exact N7 (n:=n) h1
theorem F4 {L:List Bool} {k a b:Nat}:∀{n p:Nat} {l:List SR},(xH L k a b n p).1=some l→(xH L k a b n p).2.2=0∧l.length=n∧∀s∈l,aP k a b s
 | 0,p,l,h=>by
   injection h with h;subst h;exact⟨rfl,rfl,fun s hs=>by cases hs⟩
 | n+1,p,l,h=>by
   rw[mz] at h ⊢;have h1:=(AI (L:=L) (k:=k) (a:=a) (b:=b) (p:=p)).2;generalize uv L k a b p=v at*
   obtain ⟨o,q,e⟩:=v
   cases o with
   | none=>cases h
   | some s=>
     dsimp only at h h1 ⊢;have ih:=fun l=>F4 (L:=L) (k:=k) (a:=a) (b:=b) (n:=n) (p:=q) (l:=l);generalize xH L k a b n q=u at*
     obtain ⟨o,q2,e2⟩:=u
     cases o with
     | none=>cases h
     | some m=>
       injection h with h;subst h;obtain ⟨i1,i2,i3⟩:=ih _ rfl;refine⟨i1,by rw[agu,i2],fun x hx=>?_⟩;rcases agG.1 hx with rfl | hx
       · exact(h1 _ rfl).2
       · exact i3 x hx
theorem FR {L:List Bool} {k a b:Nat}:∀{n p:Nat},(xH L k a b n p).1=none→(xH L k a b n p).2.2≠0
 | 0,p,h=>by cases h
 | n+1,p,h=>by
   rw[mz] at h ⊢;have h1:=(AI (L:=L) (k:=k) (a:=a) (b:=b) (p:=p)).1;generalize uv L k a b p=v at*
   obtain ⟨o,q,e⟩:=v
   cases o with
   | none=>exact h1 rfl
   | some s=>
     dsimp only at h ⊢;have ih:=FR (L:=L) (k:=k) (a:=a) (b:=b) (n:=n) (p:=q);generalize xH L k a b n q=u at*
     obtain ⟨o,q2,e2⟩:=u
     cases o with
     | none=>exact ih rfl
     | some m=>cases h
abbrev RW:=Nat×Nat×List SR
def JN (L:List Bool) (k a b C p:Nat):Option RW×Nat×Int:=
 if p+61≤L.length then
  (if p+122≤L.length then
   (if numOf ((L.drop p).take 61)<2305843009213693951∧numOf ((L.drop (p+61)).take 61)<2305843009213693951 then
    ((xH L k a b C (p+122)).1.map (fun l=>(numOf ((L.drop p).take 61),numOf ((L.drop (p+61)).take 61),l)),(xH L k a b C (p+122)).2)
    else(none,p+122,4))
   else(none,p+61,5))
 else(none,p,5)
def br (k a b C:Nat) (r:RW):Prop:=r.1<2305843009213693951∧r.2.1<2305843009213693951∧r.2.2.length=C∧∀s∈r.2.2,aP k a b s
def nZ (L:List Bool) (k a b C:Nat):Nat→Nat→Option (List RW)×Nat×Int
 | 0,p=>(some [],p,0)
 | n+1,p=>match JN L k a b C p with
   | (some r,q,_)=>((nZ L k a b C n q).1.map (r:: ·),(nZ L k a b C n q).2)
   | (none,q,e)=>(none,q,e)
theorem xc {L:List Bool} {k a b C n p:Nat}:nZ L k a b C (n+1) p=match JN L k a b C p with
 | (some r,q,_)=>((nZ L k a b C n q).1.map (r:: ·),(nZ L k a b C n q).2)
 | (none,q,e)=>(none,q,e):=(rfl)
def cmR (L:List Bool) (R C k a b p:Nat):Option (List RW×Nat)×Nat×Int:=
 if (vX L p).2.2=0 then
  (if 1099511627776<(vX L p).1 then(none,(vX L p).2.1,4)
   else((nZ L k a b C R (vX L p).2.1).1.map (fun l=>(l,(vX L p).1)),(nZ L k a b C R (vX L p).2.1).2))
 else(none,(vX L p).2.1,(vX L p).2.2)
def abP (v:Nat) (e:Int):Ob:=.cells [.ref v 0 0 0,.lit (.int .i64 e)]
attribute [go_sem] abP
def rV (L:List Bool) (p:Nat) (e:Int):Int×Nat×Int:=
 if e=0 then
  (if (gX L p).2.2=0 then(if 1048576<(gX L p).1 then(IntKind.i64.wrap (((gX L p).1:Int)-1),(gX L p).2.1,13) else(((gX L p).1:Int)-1,(gX L p).2.1,0))
   else(0,(gX L p).2.1,(gX L p).2.2))
 else(0,p,e)
def prX (L:List Bool) (p:Nat) (e:Int):(Int×Int×Int)×Nat×Int:=
 (((rV L p e).1,(rV L (rV L p e).2.1 (rV L p e).2.2).1,(rV L (rV L (rV L p e).2.1 (rV L p e).2.2).2.1 (rV L (rV L p e).2.1 (rV L p e).2.2).2.2).1),(rV L (rV L (rV L p e).2.1 (rV L p e).2.2).2.1 (rV L (rV L p e).2.1 (rV L p e).2.2).2.2).2)
def aej (R C k a b:Int):Prop:=(1≤R∧R≤4∧1≤C∧C≤64)∧WO k a b
theorem xD {R C:Int} {k a b:Nat} (h:1≤R∧R≤4∧1≤C∧C≤64) (hg:aT k a b):aC Tryz.prog 82 [.agg [.lit (.int .i64 R),.lit (.int .i64 C),.lit (.int .i64 (k:Int)),.lit (.int .i64 (a:Int)),.lit (.int .i64 (b:Int))]] [] (.lit (.int .i64 0)) []:=by
 have rc:=fj hg;obtain ⟨h1,h2,h3,h4⟩:=h;refine zF pl Tryz.call82 Tryz.func82 [.tmp 2] fun Q hQ=>?_;refine ae ?_;refine zC rc ?_;exact ak [] hQ
theorem Dc {A B:Nat}:aC Tryz.prog 83 [.agg [.lit (.int .u64 (A:Int)),.lit (.int .u64 (B:Int))]] [] (.lit (.int .i64 (if A<2305843009213693951∧B<2305843009213693951 then 0 else 2))) []:=by
 refine zF pl Tryz.call83 Tryz.func83 [.tmp 2] fun Q hQ=>?_
 by_cases h1:A<2305843009213693951
 · by_cases h2:B<2305843009213693951
   · rw[if_pos ⟨h1,h2⟩] at hQ
     exact zE [] hQ
   · rw[if_neg (fun h=>h2 h.2)] at hQ
     exact zE [] hQ
 · rw[if_neg (fun h=>h1 h.1)] at hQ
   exact zE [] hQ
def At (K P C:Int):Prop:=(K=1∧1≤P∧P≤8∨K=2∧P=0)∧1≤C∧C≤16
theorem CX {K P C:Int} (h:At K P C):aC Tryz.prog 85 [.agg [.lit (.int .i64 K),.lit (.int .i64 P),.lit (.int .i64 C)]] [] (.lit (.int .i64 0)) []:=by
 obtain ⟨h,h1,h2⟩:=h;refine zF pl Tryz.call85 Tryz.func85 [.tmp 2] fun Q hQ=>?_;rcases h with⟨rfl,h3,h4⟩ | ⟨rfl,rfl⟩
 · refine ae ?_
   exact ak [] hQ
 · refine ae ?_
   exact ak [] hQ
def gN (K:Int) (P N:Nat):Nat:=if K=2 then N*lgN (max 1 N) else N^P
def sV (x:Nat×Nat):List PV:=[.lit (.int .u64 (x.1:Int)),.lit (.int .i64 (x.2:Int))]
def oF (K P C:Int) (X:List (Nat×Nat)) (N:Nat):Ob:=.cells [.lit (.int .i64 K),.lit (.int .i64 P),.lit (.int .i64 C),.row 2 (X.map sV),.lit (.int .i64 (N:Int))]
def Ib (K P C:Int) (X:List (Nat×Nat)) (N:Nat):V:=.rref 5 [[.lit (.int .i64 K),.lit (.int .i64 P),.lit (.int .i64 C),.row 2 (X.map sV),.lit (.int .i64 (N:Int))]] 0 0
attribute [go_sem] oF Ib
@[go_sem] theorem TN {x:Nat×Nat}:sV x=[.lit (.int .u64 (x.1:Int)),.lit (.int .i64 (x.2:Int))]:=(rfl)
@[go_sem] theorem ab7 {X:List (Nat×Nat)} {z:Nat}:JJ (.row z (X.map sV))=True:=eq_true fun e he p hp=>by
 obtain ⟨x,_,rfl⟩:=aho.1 he;rw[TN] at hp;simp only[agG,ahd,or_false] at hp;rcases hp with rfl | rfl<;>rfl
def dG (K:Int) (P R:Nat):Rat:=(((gN K P R:Nat):Int):Rat)-(((gN K P (R-1):Nat):Int):Rat)
def dGe (K:Int) (P R:Nat):Rat:=if K=2 then dG K P R/((268435456:Int):Rat) else dG K P R
theorem oT:∀{X:List (Nat×Nat)},(∀x∈X,1≤x.2∧x.2≤1048576)→(jC X).length≤X.length*102
 | [],_=>agt _
 | x::X,h=>by
   obtain ⟨h1,h2⟩:=h x (by simp);have ih:=oT (X:=X) fun y hy=>h y (by simp[hy]);have hg:=lK (n:=x.2) zo;have hb:=bB (n:=x.2) (k:=21) zo;rw[kg,agn,agn,ai,agu];omega
theorem lF {n:Nat} (h:n≤1048576):(cF n).length≤24:=by
 have hb:=bB (n:=n) (k:=21) zo;rw[pM];omega
theorem EK {X:List (Nat×Nat)} {i:Nat} {x:Nat×Nat} (h:X[i]? =some x):jC (X.take (i+1))=jC (X.take i)++numBits x.1 61++aq x.2:=by
 rw[ah9,h,Jf];simp[jC]
theorem vx {K P:Int} {C:Nat} (h:At K P C):aC Tryz.prog 34 [.agg [.lit (.int .i64 K),.lit (.int .i64 P),.lit (.int .i64 (C:Int))]] [] (.tup [.ref 0 0 0 0,.lit (.int .i64 0)])
 [some (.cells [.lit (.int .i64 K),.lit (.int .i64 P),.lit (.int .i64 (C:Int)),.sl 1 2 0 C,.lit (.int .i64 0)]),some (.row 2 ((List.replicate C ((0:Nat),(0:Nat))).map sV))]:=by
 have hc:=CX h;obtain ⟨h,h1,h2⟩:=h;have e:(List.replicate C ((0:Nat),(0:Nat))).map sV=dy [.int .u64 0,.int .i64 0] C:=by rw[List.map_replicate];rfl
 have el:(dy [Value.int IntKind.u64 0,Value.int IntKind.i64 0] C).length=C:=by unfold dy;rw[agN]
 have et:List.take C (dy [Value.int IntKind.u64 0,Value.int IntKind.i64 0] C)=dy [Value.int IntKind.u64 0,Value.int IntKind.i64 0] C:=agB (Nat.le_of_eq el);refine zF Wa Tryz.call34 Tryz.func34 [.tmp 2,.tmp 3] fun Q hQ=>?_;rw[e] at hQ;refine ae ?_;refine zC hc ?_;generalize dy [Value.int IntKind.u64 0,Value.int IntKind.i64 0] C=zr at*
 exact ak [some 2,some 1] hQ
def arV (r:Option (List (Nat×Nat)×Nat)×Nat×Int):V:=match r.1 with
 | some _=>.tup [.ref 1 0 0 0,.lit (.int .i64 0)]
 | none=>.tup [.lit (.pointer none),.lit (.int .i64 r.2.2)]
def arS (K P C:Int) (B:List Int) (r:Option (List (Nat×Nat)×Nat)×Nat×Int):St:=match r.1 with
 | some x=> [some (nB B r.2.1),some (oF K P C x.1 x.2)]
 | none=> [some (nB B r.2.1)]
end Go.Proofs.YtcnlmelpnflhnaaGreat
