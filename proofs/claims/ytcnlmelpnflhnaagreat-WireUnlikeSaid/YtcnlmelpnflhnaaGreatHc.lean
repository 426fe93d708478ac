import Derived.Test.YtcnlmelpnflhnaaGreatAa
import Derived.Test.YtcnlmelpnflhnaaGreatLa
import Derived.Test.YtcnlmelpnflhnaaGreatFw
import Derived.Test.YtcnlmelpnflhnaaGreatOb
namespace Go.Proofs.YtcnlmelpnflhnaaGreat
open Go.Eng Go.Vx
set_option linter.unusedSimpArgs false
set_option linter.unusedVariables false
set_option maxRecDepth 100000
def pR (k a b:Nat):V:=.agg [.lit (.int .i64 (k:Int)),.lit (.int .i64 (a:Int)),.lit (.int .i64 (b:Int))]
def sR (s:Nat×Nat×Bool):V:=.agg [.lit (.int .i64 (s.1:Int)),.lit (.int .i64 (s.2.1:Int)),.lit (.bool s.2.2)]
attribute [go_sem] pR sR
def aT (k a b:Nat):Prop:=(k=1∧1≤a∧a≤4096∧1≤b∧b≤10∧bl (a+1)*(2^b-1)≤8192)∨(k=2∧a≤8∧1≤b∧b≤10)∨(k=3∧1≤a∧a≤5∧1≤b∧b≤10)∨(k=4∧1≤a∧a≤1023∧b≤20)
def aP (k a b:Nat) (s:Nat×Nat×Bool):Prop:=if k=4 then s.1≤a∧s.2.1≤b∧(s.2.2=true→s.2.1=b) else s.2.1=0∧s.1≤2^b-1∧(s.2.2=true→s.1=2^b-1)
theorem shW {k:Nat} (h:k≤32):IntKind.i64.wrap (1*2^k)=((2^k:Nat):Int):=by
 have h1:2^k≤2^32:=agA zd h;have h2:(1*2^k:Int)=((2^k:Nat):Int):=by simp
 rw[h2];generalize 2^k=x at*
 exact wrap_i64 ⟨by omega,by omega⟩
set_option maxHeartbeats 1000000 in
theorem nL {k a b:Nat} (h:aT k a b) (h4:k≠4):aC Tryz.prog 157 [pR k a b] [] (.lit (.int .i64 0)) []:=by
 refine zF L7 Tryz.call157 Tryz.func157 [.tmp 2] fun Q hQ=>?_;rcases h with⟨rfl,h1,h2,h3,h5,h6⟩ | ⟨rfl,h2,h3,h5⟩ | ⟨rfl,h1,h2,h3,h5⟩ | ⟨rfl,_⟩
 · have g:=CH (a:=(a:Int))
   rw[agC ⟨by omega,by omega⟩] at g;have k1:=vL (a:=(a:Int)) (w:=(b:Int));have ln:=yf (n:=a+1) zo;have ha1:(a:Int)+1=((a+1:Nat):Int):=by omega
   have hs:=shW (k:=b) zo;have hp:1≤2^b:=agV zd;have hp2:2^b≤2^10:=agA zd h5;have hb:=bB (n:=a+1) (k:=13) zo
   have hm:((bl (a+1):Nat):Int)*(((2^b:Nat):Int)-1)=((bl (a+1)*(2^b-1):Nat):Int):=by
    rw[show(((2^b:Nat):Int)-1)=((2^b-1:Nat):Int) by omega]
    simp
   refine ae ?_;refine zC k1 ?_;refine az (g) rfl rfl ?_;refine bh ha1 ?_;refine az (ln) rfl rfl ?_;generalize bl (a+1)*(2^b-1)=m at*
   refine Sx hs hm ?_;exact ak [] hQ
 · have g:=BC (a:=(a:Int))
   rw[agC ⟨by omega,by omega⟩] at g;have k1:=uL (a:=(a:Int)) (w:=(b:Int));refine ae ?_;refine zC k1 ?_;refine zC g ?_;exact ak [] hQ
 · have g:=Bo (a:=(a:Int))
   rw[agC ⟨by omega,by omega⟩] at g;have k1:=uJ (a:=(a:Int)) (w:=(b:Int));refine ae ?_;refine zC k1 ?_;refine zC g ?_;exact ak [] hQ
 · exact absurd rfl h4
theorem me {k a b:Nat} (h:aT k a b) (h4:k≠4):aC Tryz.prog 128 [pR k a b] [] (.lit (.int .i64 ((2^b-1:Nat):Int))) []:=by
 have c:=nL h h4;have hb:b≤10:=by rcases h with h | h | h | h<;>omega
 have hs:=shW (k:=b) zo;have hp:1≤2^b:=agV zd;have hp2:2^b≤2^10:=agA zd hb;have he:(((2^b:Nat):Int)-1)=((2^b-1:Nat):Int):=by omega
 generalize 2^b-1=m at*
 refine zF pl Tryz.call128 Tryz.func128 [.tmp 2] fun Q hQ=>?_;refine ae ?_;refine az (c) rfl rfl ?_;refine Sx hs he ?_;exact ak [] hQ
theorem kQ {a b:Nat} (h1:1≤a) (h2:a≤1023) (h3:b≤20):aC Tryz.prog 156 [.agg [.lit (.int .i64 (a:Int)),.lit (.int .i64 (b:Int))]] [] (.lit (.int .i64 0)) []:=by
 refine zF pl Tryz.call156 Tryz.func156 [.tmp 2] fun Q hQ=>?_;exact zE [] hQ
theorem vq {a b:Nat} {s:Nat×Nat×Bool} (h1:1≤a) (h2:a≤1023) (h3:b≤20) (w1:s.1≤a) (w2:s.2.1≤b) (w3:s.2.2=true→s.2.1=b):aC Tryz.prog 145 [.agg [.lit (.int .i64 (a:Int)),.lit (.int .i64 (b:Int))],sR s] [] (.lit (.bool true)) []:=by
 have c:=kQ h1 h2 h3;obtain ⟨K,T,F⟩:=s;dsimp only at w1 w2 w3;refine zF pl Tryz.call145 Tryz.func145 [.tmp 4] fun Q hQ=>?_
 cases F with
 | true=>
   have w4:=w3 rfl;refine ae ?_;refine zC c ?_;exact ak [] hQ
 | false=>
   refine ae ?_;refine zC c ?_;exact ak [] hQ
theorem lU {k a b:Int}:aC Tryz.prog 62 [.agg [.lit (.int .i64 k),.lit (.int .i64 a),.lit (.int .i64 b)]] [] (.agg [.lit (.int .i64 a),.lit (.int .i64 b)]) []:=by
 refine zF pl Tryz.call62 Tryz.func62 [.cell 2 134] fun Q hQ=>?_;exact zE [] hQ
theorem kq {k a b:Int}:aC Tryz.prog 66 [.agg [.lit (.int .i64 k),.lit (.int .i64 a),.lit (.int .i64 b)]] [] (.agg [.lit (.int .i64 k),.lit (.int .i64 a),.lit (.int .i64 b)]) []:=by
 refine zF pl Tryz.call66 Tryz.func66 [.cell 2 143] fun Q hQ=>?_;exact zE [] hQ
theorem jX {K T:Int} {F:Bool}:aC Tryz.prog 64 [.agg [.lit (.int .i64 K),.lit (.int .i64 T),.lit (.bool F)]] [] (.agg [.lit (.int .i64 K),.lit (.int .i64 T),.lit (.bool F)]) []:=by
 refine zF pl Tryz.call64 Tryz.func64 [.cell 2 131] fun Q hQ=>?_;exact zE [] hQ
theorem fj {k a b:Nat} (h:aT k a b):aC Tryz.prog 121 [pR k a b] [] (.lit (.int .i64 0)) []:=by
 refine zF pl Tryz.call121 Tryz.func121 [.tmp 2] fun Q hQ=>?_
 by_cases h4:k=4
 · obtain ⟨h1,h2,h3⟩:1≤a∧a≤1023∧b≤20:=by rcases h with h | h | h | h<;>omega
   have c:=kQ h1 h2 h3;have t:=lU (k:=(k:Int)) (a:=(a:Int)) (b:=(b:Int));refine ae ?_;refine zC t ?_;refine zC c ?_;exact ak [] hQ
 · have c:=nL h h4
   have t:=kq (k:=(k:Int)) (a:=(a:Int)) (b:=(b:Int));refine ae ?_;refine zC t ?_;refine zC c ?_;exact ak [] hQ
set_option maxHeartbeats 1000000 in
theorem pL {k a b:Nat} {s:Nat×Nat×Bool} (h:aT k a b) (w:aP k a b s):aC Tryz.prog 86 [pR k a b,sR s] [] (.lit (.bool true)) []:=by
 have rc:=fj h;refine zF N4 Tryz.call86 Tryz.func86 [.tmp 4] fun Q hQ=>?_
 by_cases h4:k=4
 · obtain ⟨h1,h2,h3⟩:1≤a∧a≤1023∧b≤20:=by rcases h with h | h | h | h<;>omega
   unfold aP at w;rw[if_pos h4] at w;have tw:=vq h1 h2 h3 w.1 w.2.1 w.2.2;have t:=lU (k:=(k:Int)) (a:=(a:Int)) (b:=(b:Int));have tt:=jX (K:=(s.1:Int)) (T:=(s.2.1:Int)) (F:=s.2.2);refine ae ?_;refine zC rc ?_
   repeat (first | (refine az (t) rfl rfl ?_) | (refine az (tt) rfl rfl ?_) | (refine az (tw) rfl rfl ?_) | (refine ae ?_))
   exact ak [] hQ
 · have ct:=me h h4
   have t:=kq (k:=(k:Int)) (a:=(a:Int)) (b:=(b:Int));unfold aP at w;rw[if_neg h4] at w;obtain ⟨K,T,F⟩:=s;obtain ⟨w1,w2,w3⟩:=w;dsimp only at w1 w2 w3;generalize 2^b-1=m at*
   cases F with
   | true=>
     have w4:=w3 rfl;refine ae ?_;refine zC rc ?_;refine zC t ?_;refine zC ct ?_;exact ak [] hQ
   | false=>
     refine ae ?_;refine zC rc ?_;refine zC t ?_;refine zC ct ?_;exact ak [] hQ
theorem r9 {k a b:Nat} {s:Nat×Nat×Bool} (h:aT k a b) (w:aP k a b s):aC Tryz.prog 61 [pR k a b,.row 3 [[.lit (.int .i64 (s.1:Int)),.lit (.int .i64 (s.2.1:Int)),.lit (.bool s.2.2)]]] [] (.lit (.int .i64 0)) []:=by
 have rc:=fj h;have rw':=pL h w;refine zF pl Tryz.call61 Tryz.func61 [.tmp 4] fun Q hQ=>?_;refine ae ?_;refine zC rc ?_
 refine aU (X:=Nat) (st:=fun i=>([(2,.ref 0 0 0 0),(13,.row 3 [[.lit (.int .i64 (s.1:Int)),.lit (.int .i64 (s.2.1:Int)),.lit (.bool s.2.2)]]),(14,.lit (.int .i64 1)),(15,.lit (.int .i64 (i:Int)))],
  [some (.cells [.lit (.int .i64 (k:Int)),.lit (.int .i64 (a:Int)),.lit (.int .i64 (b:Int))])]))
  (inv:=fun i=>i≤1) (m:=fun i=>1-i) 0 [some 0] (agM _) ?_
 intro i hi
 by_cases hil:i<1
 · obtain rfl:i=0:=by omega
   refine ae ?_;refine zC rw' ?_;refine aO 1 [some 0] (agt _) zd
 · obtain rfl:i=1:=by omega
   exact zE [] hQ
def w1 (k a b:Nat):Nat:=if k=4 then bl a else b
def w2 (k a b:Nat):Nat:=if k=4 then bl b else 0
theorem lH {k a b:Nat} (h:aT k a b):aC Tryz.prog 97 [pR k a b] [] (.tup [.lit (.int .i64 (w1 k a b:Int)),.lit (.int .i64 (w2 k a b:Int))]) []:=by
 unfold w1 w2;refine zF Sy Tryz.call97 Tryz.func97 [.tmp 2,.tmp 3] fun Q hQ=>?_
 by_cases h4:k=4
 · obtain ⟨h1,h2,h3⟩:1≤a∧a≤1023∧b≤20:=by rcases h with h | h | h | h<;>omega
   rw[if_pos h4,if_pos h4] at hQ;have l1:=yf (n:=a) zo;have l2:=yf (n:=b) zo;refine ae ?_
   repeat (first | (refine az (l1) rfl rfl ?_) | (refine az (l2) rfl rfl ?_) | (refine ae ?_))
   exact ak [] hQ
 · rw[if_neg h4,if_neg h4] at hQ
   exact zE [] hQ
theorem yr {k a b:Nat} (h:aT k a b):w1 k a b≤10∧w2 k a b≤5:=by
 unfold w1 w2
 by_cases h4:k=4
 · obtain ⟨h1,h2,h3⟩:1≤a∧a≤1023∧b≤20:=by rcases h with h | h | h | h<;>omega
   rw[if_pos h4,if_pos h4];exact⟨bB zo,bB zo⟩
 · rw[if_neg h4,if_neg h4]
   exact⟨by rcases h with h | h | h | h<;>omega,by decide⟩
theorem uw {k a b:Nat} (h:aT k a b):aC Tryz.prog 144 [pR k a b] [] (.lit (.int .i64 ((w1 k a b+w2 k a b+1:Nat):Int))) []:=by
 have rc:=fj h;have ws:=lH h;have hw:=yr h;generalize w1 k a b=x at*
 generalize w2 k a b=y at*
 refine zF pl Tryz.call144 Tryz.func144 [.tmp 2] fun Q hQ=>?_;refine ae ?_;refine zC rc ?_;refine zC ws ?_;exact ak [] hQ
def cW (k a b:Nat) (s:Nat×Nat×Bool):List Bool:=numBits s.1 (w1 k a b)++numBits s.2.1 (w2 k a b)++[s.2.2]
theorem dN (k a b:Nat) (s:Nat×Nat×Bool):(cW k a b s).length=w1 k a b+w2 k a b+1:=by
 unfold cW;rw[agn,agn,ai,ai]
 rfl
theorem zU {k a b:Nat} {s:Nat×Nat×Bool} (h:aT k a b) (w:aP k a b s):s.1<2^w1 k a b∧s.2.1<2^w2 k a b:=by
 unfold aP at w;unfold w1 w2
 by_cases h4:k=4
 · rw[if_pos h4] at w ⊢
   rw[if_pos h4];exact⟨ahb w.1 (jr a),ahb w.2.1 (jr b)⟩
 · rw[if_neg h4] at w ⊢
   rw[if_neg h4];have hp:1≤2^b:=agV zd;exact⟨by omega,by rw[w.1];decide⟩
set_option maxHeartbeats 1000000 in
theorem nN {k a b:Nat} {s:Nat×Nat×Bool} {L:List Bool} (h:aT k a b) (w:aP k a b s) (hL:L.length<1099511600000):
 aC Tryz.prog 39 [pR k a b,.ref 0 0 0 0,sR s] [some (jf 1 L),some (iY L)] (.lit (.int .i64 0)) [some (jf 2 (L++cW k a b s)),none,some (iY (L++cW k a b s))]:=by
 have ww:=r9 h w;have ws:=lH h;have hw:=yr h;have hlt:=zU h w;obtain ⟨K,T,F⟩:=s;have e:L++cW k a b (K,T,F)=L++numBits K (w1 k a b)++numBits T (w2 k a b)++[F]:=by unfold cW;simp
 rw[e];clear e w;dsimp only at hlt ww;generalize w1 k a b=x at*
 generalize w2 k a b=y at*
 have hpx:2^x≤2^10:=agA zd hw.1;have hpy:2^y≤2^5:=agA zd hw.2;have n1:=bW (L:=L) (n:=K) (m:=(x:Int)) zo zo zo zo (by rw[ag9];exact hlt.1);have n2:=bW (L:=L++numBits K x) (n:=T) (m:=(y:Int)) zo (by rw[agn,ai];omega) zo zo (by rw[ag9];exact hlt.2);have b1:=yl (L:=L++numBits K x++numBits T y) (x:=F) (by rw[agn,agn,ai,ai];omega);rw[ag9] at n1 n2;refine zF pl Tryz.call39 Tryz.func39 [.tmp 6] fun Q hQ=>?_;refine ae ?_;refine zW [] [4] ww ?_;refine zC ws ?_;refine zW [some 0,some 1] [] n1 ?_;refine zW [some 0,some 5] [] n2 ?_;refine zW [some 0,some 6] [] b1 ?_;exact ak [some 0,some 1,some 7] hQ
def WO (k a b:Int):Prop:=∃k' a' b':Nat,k=k'∧a=a'∧b=b'∧aT k' a' b'
def cN (v k a b:Nat):Ob:=.cells [.ref v 0 0 0,.lit (.int .i64 (k:Int)),.lit (.int .i64 (a:Int)),.lit (.int .i64 (b:Int))]
def kp (k a b n w X:Nat):V:=.rref 4 [[.ptr 3 [[.row 1 ((words (aZ n w) X).map (ie .u64)),.lit (.int .i64 (n:Int)),.lit (.int .i64 (w:Int))]] 0 0,.lit (.int .i64 (k:Int)),.lit (.int .i64 (a:Int)),.lit (.int .i64 (b:Int))]] 0 0
attribute [go_sem] cN kp
def wd (k a b:Nat):Nat:=w1 k a b+w2 k a b+1
theorem eC {k a b:Nat} (h:aT k a b):1≤wd k a b∧wd k a b≤16:=by
 have:=yr h
 unfold wd;omega
theorem Ck {k a b n w X:Nat}:aC Tryz.prog 91 [kp k a b n w X] [] (pR k a b) []:=by
 refine zF pl Tryz.call91 Tryz.func91 [.cell 2 34] fun Q hQ=>?_;exact zE [] hQ
theorem oS {k a b n:Nat} (h:aT k a b) (hn:1≤n∧n≤256):aC Tryz.prog 79 [pR k a b,.lit (.int .i64 (n:Int))] [] (.tup [.ref 0 0 0 0,.lit (.int .i64 0)]) [some (cN 1 k a b),some (cB 2 n (wd k a b)),some (cf n (wd k a b) 0)]:=by
 have rc:=fj h;have rb:=uw h;have hw:=eC h;have nw:=Oc (n:=n) (w:=wd k a b) hn.2 ⟨hw.1,by omega⟩;change aC _ _ _ _ (.lit (.int .i64 ((wd k a b:Nat):Int))) _ at rb;refine zF pl Tryz.call79 Tryz.func79 [.tmp 4,.tmp 5] fun Q hQ=>?_;generalize wd k a b=w at*
 refine ae ?_;refine zC rc ?_;refine zC rb ?_;refine zW [] [] nw ?_;exact ak [some 3,some 1,some 2] hQ
theorem Dz {k a b:Nat} {s:Nat×Nat×Bool}:numOf (((bitsOf (pk (cW k a b s))).drop 0).take (wd k a b))=numOf (cW k a b s):=by
 show numOf (((bitsOf (pk (cW k a b s))).drop 0).take (w1 k a b+w2 k a b+1))=_;rw[nu,agO,ahy (dN k a b s)]
set_option maxHeartbeats 4000000 in
theorem oE {k a b n i:Nat} {N:List Nat} {s:Nat×Nat×Bool} (h:aT k a b) (w:aP k a b s) (hn:n≤256) (hi:i<n) (hN:N.length=n) (hl:∀x∈N,x<2^wd k a b):
 aC Tryz.prog 71 [.ref 0 0 0 0,.lit (.int .i64 (i:Int)),sR s] [some (cN 1 k a b),some (cB 2 n (wd k a b)),some (cf n (wd k a b) (bF (wd k a b) N))] (.lit (.int .i64 0))
  [some (cN 1 k a b),some (cB 2 n (wd k a b)),some (cf n (wd k a b) (bF (wd k a b) (N.set i (numOf (cW k a b s)))))]:=by
 have hw:=eC h;have hwl:(cW k a b s).length=wd k a b:=dN k a b s;have hlw:=ay (aZ n (wd k a b)) (bF (wd k a b) N);have g:=t6 (n:=n) (w:=wd k a b) (i:=i) (N:=N) hn ⟨hw.1,by omega⟩ hi hl;have wr:=nN (L:=[]) h w zd;rw[aht] at wr;have bf:=sI (L:=cW k a b s) zo;have hpl:=j1 (cW k a b s);have rd:=Al (B:=pk (cW k a b s)) zo
 have hI:HY (pk (cW k a b s)):=by
  intro x hx;unfold pk jM at hx;obtain ⟨j,_,rfl⟩:=aho.1 hx
  have:=gE (cW k a b s) j
  omega
 have nm:=l8 (B:=pk (cW k a b s)) (p:=0) (w:=wd k a b) hI zo zo zo;rw[Dz] at nm;have wdt:=wu (n:=n) (w:=wd k a b) (L:=words (aZ n (wd k a b)) (bF (wd k a b) N));have hx:numOf (cW k a b s)<2^wd k a b:=by rw[←hwl];exact fE _
 have st:=Ia (n:=n) (w:=wd k a b) (i:=i) (x:=numOf (cW k a b s)) (N:=N) hn ⟨hw.1,by omega⟩ hi hx hN hl;refine zF M6 Tryz.call71 Tryz.func71 [.tmp 6] fun Q hQ=>?_;refine ae ?_;refine eD (g) ?_;refine ae ?_;refine zW [some 4,none] [] wr ?_;refine dB (bf) ?_;refine ae ?_;refine zW [] [7] rd ?_;refine eD (wdt) ?_;refine ae ?_;refine zW [some 8] [] nm ?_;refine zW [some 1,some 2] [] st ?_;exact ak [some 0,some 1,some 2] hQ
def xl (N:Nat):Int:=((N*lgN (max 1 N):Nat):Int)
open Go.Eng
variable {α:Type}
def DT.sub:DT α→List Bool→DT α
 | t,[]=>t
 | .ret a,_::_=>.ret a
 | .ask f g,b::bs=>(if b then g else f).sub bs
def wkS (val:α→Nat):DT α→Nat→Nat
 | .ret a,f=>val a*2^f
 | .ask _ _,0=>0
 | .ask g h,f+1=>wkS val g f+wkS val h f
def wkO:DT α→Nat→Bool
 | .ret _,_=>false
 | .ask _ _,0=>true
 | .ask g h,f+1=>wkO g f || wkO h f
def wkA (q:α→Bool):DT α→Nat→Bool
 | .ret a,_=>q a
 | .ask _ _,0=>false
 | .ask g h,f+1=>wkA q g f || wkA q h f
def ae1 (P:SP) (x y z:Nat):DT SS:=
 (rz P ([(0,0),(0,0)],1,false) 0 x).bind fun a=>(rz P a 1 y).bind fun b=>(rz P b 0 z).bind fun c=>NU P c c
end Go.Proofs.YtcnlmelpnflhnaaGreat

namespace Go.Proofs.YtcnlmelpnflhnaaGreat
open Go.Eng Go.Vx
set_option linter.unusedSimpArgs false
set_option linter.unusedVariables false
set_option maxRecDepth 100000
theorem Np:pr=2305843009213693951:=rfl
theorem xF {a b:Nat} (ha:a<2305843009213693951) (hb:b<2305843009213693951):aC Tryz.prog 83 [.agg [.lit (.int .u64 a),.lit (.int .u64 b)]] [] (.lit (.int .i64 0)) []:=by
 refine zF pl Tryz.call83 Tryz.func83 [.tmp 2] fun Q hQ=>?_;exact zE [] hQ
theorem K0 {a b k:Nat} (ha:a<18446744073709551616) (hb:b<2305843009213693951) (hk:k<18446744073709551616):aC Tryz.prog 141 [.agg [.lit (.int .u64 a),.lit (.int .u64 b)],.lit (.int .u64 k)] [] (.lit (.int .u64 (((a*k+b)%pr:Nat):Int))) []:=by
 refine zF Mr Tryz.call141 Tryz.func141 [.tmp 4] fun Q hQ=>?_;refine ae ?_;refine az (Jv ha hk) rfl rfl ?_;have e:(a*k+b)%pr=(a*k%pr+b)%2305843009213693951:=by rw[Np,Nat.mod_add_mod]
 have hm:a*k%pr<2305843009213693951:=agJ _ zd;rw[e] at hQ;generalize a*k%pr=m at*
 have f:((m:Int)+(b:Int))%2305843009213693951=(((m+b)%2305843009213693951:Nat):Int):=by omega
 refine bh f ?_;exact ak [] hQ
theorem iu {a b k c:Nat} (ha:a<2305843009213693951) (hb:b<2305843009213693951) (hk:k<2305843009213693951) (hc:1≤c∧c≤64):aC Tryz.prog 76 [.agg [.lit (.int .u64 a),.lit (.int .u64 b)],.lit (.int .u64 k),.lit (.int .i64 c)] [] (.tup [.lit (.int .i64 (((a*k+b)%pr%c:Nat):Int)),.lit (.int .i64 0)]) []:=by
 refine zF pl Tryz.call76 Tryz.func76 [.tmp 6,.tmp 7] fun Q hQ=>?_;refine ae ?_;refine zC (xF ha hb) ?_;refine az (K0 zo hb zo) rfl rfl ?_;have hm:(a*k+b)%pr<2305843009213693951:=agJ _ zd;generalize (a*k+b)%pr=m at*
 have hmc:m%c<64:=ag6 (agJ _ zo) hc.2;have f:(m:Int)%(c:Int)=((m%c:Nat):Int):=by simp
 have f2:(m:Int).tmod (c:Int)=((m%c:Nat):Int):=by rw[ah8 zo];exact f
 refine dK f f2 ?_;exact ak [] hQ
end Go.Proofs.YtcnlmelpnflhnaaGreat
