import Derived.Test.YtcnlmelpnflhnaaGreatD1
import Derived.Test.YtcnlmelpnflhnaaGreatD3
import Derived.Test.YtcnlmelpnflhnaaGreatE8
import Derived.Test.YtcnlmelpnflhnaaGreatFw
import Derived.Test.YtcnlmelpnflhnaaGreatFb
namespace Go.Proofs.YtcnlmelpnflhnaaGreat
open Go.Eng Go.Vx
set_option linter.unusedSimpArgs false
set_option linter.unusedVariables false
set_option maxRecDepth 100000
theorem M9 {n:Nat} (hn:(wg n).length≤4000000):aA Tryz.prog 226 [NV n] [] (.lit (.int .i64 (bl n:Int))) []:=by
 refine zF pl Tryz.call226 Tryz.func226 [.tmp 2] fun Q hQ=>?_;have hnl:=ay (wg n)
 by_cases h:n=0
 · subst h
   rw[Kz] at hQ;refine br @eO ?_;exact ak [] hQ
 · obtain ⟨h1,h2,h3⟩:=Ac h
   have hg:=bD (wg n) ((wg n).length-1);have hd:decide (((nl (wg n)).length:Int)=0)=false:=ajn zo;have hix:(((nl (wg n)).length:Int)-1).toNat=(wg n).length-1:=by omega
   have h64:=kZ (n:=(wg n).getD ((wg n).length-1) 0) h2;rw[h3] at hQ;generalize (wg n).getD ((wg n).length-1) 0=t at*
   have hbt:=bP (n:=t) (k:=64) zo;have hsum:64*(((nl (wg n)).length:Int)-1)+(bl t:Int)=((64*((wg n).length-1)+bl t:Nat):Int):=by omega
   refine qZ hd hix hg ?_;refine aB (h64) rfl rfl ?_;refine br hsum ?_;exact ak [] hQ
def pwI (a n:Nat) (z:Nat×Nat×Nat):Prop:=∃i,z.1=a^2^i∧z.2.1=a^(n%2^i)∧z.2.2=n/2^i
theorem xk {a:Int}:aA Tryz.prog 234 [.lit (.int .i64 a)] [] (.lit (.bool (decide (1≤a∧a≤4096)))) []:=by
 refine zF pl Tryz.call234 Tryz.func234 [.tmp 2] fun Q hQ=>?_
 by_cases h:1≤a
 · refine E6 ?_
   simp only[h,true_and] at hQ;exact ak [] hQ
 · refine JD ?_
   simp only[h,false_and,decide_false] at hQ;exact ak [] hQ
theorem HP {a:Int}:aA Tryz.prog 245 [.lit (.int .i64 a)] [] (.lit (.bool (decide (0≤a∧a≤8)))) []:=by
 refine zF pl Tryz.call245 Tryz.func245 [.tmp 2] fun Q hQ=>?_
 by_cases h:0≤a
 · refine E6 ?_
   simp only[h,true_and] at hQ;exact ak [] hQ
 · refine JD ?_
   simp only[h,false_and,decide_false] at hQ;exact ak [] hQ
theorem Gn {a:Int}:aA Tryz.prog 255 [.lit (.int .i64 a)] [] (.lit (.bool (decide (1≤a∧a≤5)))) []:=by
 refine zF pl Tryz.call255 Tryz.func255 [.tmp 2] fun Q hQ=>?_
 by_cases h:1≤a
 · refine E6 ?_
   simp only[h,true_and] at hQ;exact ak [] hQ
 · refine JD ?_
   simp only[h,false_and,decide_false] at hQ;exact ak [] hQ
theorem ET {a:Int}:aA Tryz.prog 230 [.lit (.int .i64 a)] [] (.lit (.bool (decide (1≤a∧a≤4096)))) []:=by
 refine zF pl Tryz.call230 Tryz.func230 [.tmp 2] fun Q hQ=>?_;refine ae ?_;refine zC xk ?_;exact ak [] hQ
theorem DN {a:Int}:aA Tryz.prog 241 [.lit (.int .i64 a)] [] (.lit (.bool (decide (0≤a∧a≤8)))) []:=by
 refine zF pl Tryz.call241 Tryz.func241 [.tmp 2] fun Q hQ=>?_;refine ae ?_;refine zC HP ?_;exact ak [] hQ
theorem Dz {a:Int}:aA Tryz.prog 251 [.lit (.int .i64 a)] [] (.lit (.bool (decide (1≤a∧a≤5)))) []:=by
 refine zF pl Tryz.call251 Tryz.func251 [.tmp 2] fun Q hQ=>?_;refine ae ?_;refine zC Gn ?_;exact ak [] hQ
theorem xS {a w:Int}:aA Tryz.prog 125 [.agg [.lit (.int .i64 1),.lit (.int .i64 a),.lit (.int .i64 w)]] [] (.lit (.iface 257 (.int .i64 a))) []:=by
 refine zF pl Tryz.call125 Tryz.func125 [.tmp 2] fun Q hQ=>?_;exact zE [] hQ
theorem wX {a w:Int}:aA Tryz.prog 125 [.agg [.lit (.int .i64 2),.lit (.int .i64 a),.lit (.int .i64 w)]] [] (.lit (.iface 258 (.int .i64 a))) []:=by
 refine zF pl Tryz.call125 Tryz.func125 [.tmp 2] fun Q hQ=>?_;exact zE [] hQ
theorem wU {a w:Int}:aA Tryz.prog 125 [.agg [.lit (.int .i64 3),.lit (.int .i64 a),.lit (.int .i64 w)]] [] (.lit (.iface 259 (.int .i64 a))) []:=by
 refine zF pl Tryz.call125 Tryz.func125 [.tmp 2] fun Q hQ=>?_;exact zE [] hQ
def ai4 (L:List Bool) (n d p:Nat):Nat×Int×Nat×Bool:=
 (if (fm L (n%d) d p).2.1=0 then n/d+(if (fm L (n%d) d p).1 then 1 else 0) else 0,(fm L (n%d) d p).2.1,(fm L (n%d) d p).2.2.1,(fm L (n%d) d p).2.2.2)
def mW (L:List Bool) (p:Nat) (r:Nat×Int×Nat×Bool):Prop:=r=(0,8,L.length,true)∨∃n e q,r=(n,e,q,false)∧e≠8∧p≤q∧q≤L.length
def pR (k a b:Nat):V:=.agg [.lit (.int .i64 (k:Int)),.lit (.int .i64 (a:Int)),.lit (.int .i64 (b:Int))]
def sR (s:Nat×Nat×Bool):V:=.agg [.lit (.int .i64 (s.1:Int)),.lit (.int .i64 (s.2.1:Int)),.lit (.bool s.2.2)]
attribute [go_sem] pR sR
def aL (k a b:Nat):Prop:=(k=1∧1≤a∧a≤4096∧1≤b∧b≤10∧bl (a+1)*(2^b-1)≤8192)∨(k=2∧a≤8∧1≤b∧b≤10)∨(k=3∧1≤a∧a≤5∧1≤b∧b≤10)∨(k=4∧1≤a∧a≤1023∧b≤20)
def aP (k a b:Nat) (s:Nat×Nat×Bool):Prop:=if k=4 then s.1≤a∧s.2.1≤b∧(s.2.2=true→s.2.1=b) else s.2.1=0∧s.1≤2^b-1∧(s.2.2=true→s.1=2^b-1)
theorem shW {k:Nat} (h:k≤32):IntKind.i64.wrap (1*2^k)=((2^k:Nat):Int):=by
 have h1:2^k≤2^32:=ajv zd h;have h2:(1*2^k:Int)=((2^k:Nat):Int):=by simp
 rw[h2];generalize 2^k=x at*
 exact wrap_i64 ⟨by omega,by omega⟩
set_option maxHeartbeats 1000000 in
theorem oW {k a b:Nat} (h:aL k a b) (h4:k≠4):aA Tryz.prog 157 [pR k a b] [] (.lit (.int .i64 0)) []:=by
 refine zF OK Tryz.call157 Tryz.func157 [.tmp 2] fun Q hQ=>?_;rcases h with⟨rfl,h1,h2,h3,h5,h6⟩ | ⟨rfl,h2,h3,h5⟩ | ⟨rfl,h1,h2,h3,h5⟩ | ⟨rfl,_⟩
 · have g:=ET (a:=(a:Int))
   rw[aju ⟨by omega,by omega⟩] at g;have k1:=xS (a:=(a:Int)) (w:=(b:Int));have ln:=Au (n:=a+1) zo;have ha1:(a:Int)+1=((a+1:Nat):Int):=by omega
   have hs:=shW (k:=b) zo;have hp:1≤2^b:=ajV zd;have hp2:2^b≤2^10:=ajv zd h5;have hb:=bP (n:=a+1) (k:=13) zo
   have hm:((bl (a+1):Nat):Int)*(((2^b:Nat):Int)-1)=((bl (a+1)*(2^b-1):Nat):Int):=by
    rw[show(((2^b:Nat):Int)-1)=((2^b-1:Nat):Int) by omega]
    simp
   refine ae ?_;refine zC k1 ?_;refine aB (g) rfl rfl ?_;refine br ha1 ?_;refine aB (ln) rfl rfl ?_;generalize bl (a+1)*(2^b-1)=m at*
   refine Zd hs hm ?_;exact ak [] hQ
 · have g:=DN (a:=(a:Int))
   rw[aju ⟨by omega,by omega⟩] at g;have k1:=wX (a:=(a:Int)) (w:=(b:Int));refine ae ?_;refine zC k1 ?_;refine zC g ?_;exact ak [] hQ
 · have g:=Dz (a:=(a:Int))
   rw[aju ⟨by omega,by omega⟩] at g;have k1:=wU (a:=(a:Int)) (w:=(b:Int));refine ae ?_;refine zC k1 ?_;refine zC g ?_;exact ak [] hQ
 · exact absurd rfl h4
theorem nu {k a b:Nat} (h:aL k a b) (h4:k≠4):aA Tryz.prog 128 [pR k a b] [] (.lit (.int .i64 ((2^b-1:Nat):Int))) []:=by
 have c:=oW h h4;have hb:b≤10:=by rcases h with h | h | h | h<;>omega
 have hs:=shW (k:=b) zo;have hp:1≤2^b:=ajV zd;have hp2:2^b≤2^10:=ajv zd hb;have he:(((2^b:Nat):Int)-1)=((2^b-1:Nat):Int):=by omega
 generalize 2^b-1=m at*
 refine zF pl Tryz.call128 Tryz.func128 [.tmp 2] fun Q hQ=>?_;refine ae ?_;refine aB (c) rfl rfl ?_;refine Zd hs he ?_;exact ak [] hQ
theorem lV {a b:Nat} (h1:1≤a) (h2:a≤1023) (h3:b≤20):aA Tryz.prog 156 [.agg [.lit (.int .i64 (a:Int)),.lit (.int .i64 (b:Int))]] [] (.lit (.int .i64 0)) []:=by
 refine zF pl Tryz.call156 Tryz.func156 [.tmp 2] fun Q hQ=>?_;exact zE [] hQ
theorem xx {a b:Nat} {s:Nat×Nat×Bool} (h1:1≤a) (h2:a≤1023) (h3:b≤20) (w1:s.1≤a) (w2:s.2.1≤b) (w3:s.2.2=true→s.2.1=b):aA Tryz.prog 145 [.agg [.lit (.int .i64 (a:Int)),.lit (.int .i64 (b:Int))],sR s] [] (.lit (.bool true)) []:=by
 have c:=lV h1 h2 h3;obtain ⟨K,T,F⟩:=s;dsimp only at w1 w2 w3;refine zF pl Tryz.call145 Tryz.func145 [.tmp 4] fun Q hQ=>?_
 cases F with
 | true=>
   have w4:=w3 rfl;refine ae ?_;refine zC c ?_;exact ak [] hQ
 | false=>
   refine ae ?_;refine zC c ?_;exact ak [] hQ
theorem m5 {k a b:Int}:aA Tryz.prog 62 [.agg [.lit (.int .i64 k),.lit (.int .i64 a),.lit (.int .i64 b)]] [] (.agg [.lit (.int .i64 a),.lit (.int .i64 b)]) []:=by
 refine zF pl Tryz.call62 Tryz.func62 [.cell 2 134] fun Q hQ=>?_;exact zE [] hQ
theorem lz {k a b:Int}:aA Tryz.prog 66 [.agg [.lit (.int .i64 k),.lit (.int .i64 a),.lit (.int .i64 b)]] [] (.agg [.lit (.int .i64 k),.lit (.int .i64 a),.lit (.int .i64 b)]) []:=by
 refine zF pl Tryz.call66 Tryz.func66 [.cell 2 143] fun Q hQ=>?_;exact zE [] hQ
theorem kL {K T:Int} {F:Bool}:aA Tryz.prog 64 [.agg [.lit (.int .i64 K),.lit (.int .i64 T),.lit (.bool F)]] [] (.agg [.lit (.int .i64 K),.lit (.int .i64 T),.lit (.bool F)]) []:=by
 refine zF pl Tryz.call64 Tryz.func64 [.cell 2 131] fun Q hQ=>?_;exact zE [] hQ
theorem fL {k a b:Nat} (h:aL k a b):aA Tryz.prog 121 [pR k a b] [] (.lit (.int .i64 0)) []:=by
 refine zF pl Tryz.call121 Tryz.func121 [.tmp 2] fun Q hQ=>?_
 by_cases h4:k=4
 · obtain ⟨h1,h2,h3⟩:1≤a∧a≤1023∧b≤20:=by rcases h with h | h | h | h<;>omega
   have c:=lV h1 h2 h3;have t:=m5 (k:=(k:Int)) (a:=(a:Int)) (b:=(b:Int));refine ae ?_;refine zC t ?_;refine zC c ?_;exact ak [] hQ
 · have c:=oW h h4
   have t:=lz (k:=(k:Int)) (a:=(a:Int)) (b:=(b:Int));refine ae ?_;refine zC t ?_;refine zC c ?_;exact ak [] hQ
set_option maxHeartbeats 1000000 in
theorem qS {k a b:Nat} {s:Nat×Nat×Bool} (h:aL k a b) (w:aP k a b s):aA Tryz.prog 86 [pR k a b,sR s] [] (.lit (.bool true)) []:=by
 have rc:=fL h;refine zF QX Tryz.call86 Tryz.func86 [.tmp 4] fun Q hQ=>?_
 by_cases h4:k=4
 · obtain ⟨h1,h2,h3⟩:1≤a∧a≤1023∧b≤20:=by rcases h with h | h | h | h<;>omega
   unfold aP at w;rw[if_pos h4] at w;have tw:=xx h1 h2 h3 w.1 w.2.1 w.2.2;have t:=m5 (k:=(k:Int)) (a:=(a:Int)) (b:=(b:Int));have tt:=kL (K:=(s.1:Int)) (T:=(s.2.1:Int)) (F:=s.2.2);refine ae ?_;refine zC rc ?_
   repeat (first | (refine aB (t) rfl rfl ?_) | (refine aB (tt) rfl rfl ?_) | (refine aB (tw) rfl rfl ?_) | (refine ae ?_))
   exact ak [] hQ
 · have ct:=nu h h4
   have t:=lz (k:=(k:Int)) (a:=(a:Int)) (b:=(b:Int));unfold aP at w;rw[if_neg h4] at w;obtain ⟨K,T,F⟩:=s;obtain ⟨w1,w2,w3⟩:=w;dsimp only at w1 w2 w3;generalize 2^b-1=m at*
   cases F with
   | true=>
     have w4:=w3 rfl;refine ae ?_;refine zC rc ?_;refine zC t ?_;refine zC ct ?_;exact ak [] hQ
   | false=>
     refine ae ?_;refine zC rc ?_;refine zC t ?_;refine zC ct ?_;exact ak [] hQ
theorem tU {k a b:Nat} {s:Nat×Nat×Bool} (h:aL k a b) (w:aP k a b s):aA Tryz.prog 61 [pR k a b,.row 3 [[.lit (.int .i64 (s.1:Int)),.lit (.int .i64 (s.2.1:Int)),.lit (.bool s.2.2)]]] [] (.lit (.int .i64 0)) []:=by
 have rc:=fL h;have rw':=qS h w;refine zF pl Tryz.call61 Tryz.func61 [.tmp 4] fun Q hQ=>?_;refine ae ?_;refine zC rc ?_
 refine aR (X:=Nat) (st:=fun i=>([(2,.ref 0 0 0 0),(13,.row 3 [[.lit (.int .i64 (s.1:Int)),.lit (.int .i64 (s.2.1:Int)),.lit (.bool s.2.2)]]),(14,.lit (.int .i64 1)),(15,.lit (.int .i64 (i:Int)))],
  [some (.cells [.lit (.int .i64 (k:Int)),.lit (.int .i64 (a:Int)),.lit (.int .i64 (b:Int))])]))
  (inv:=fun i=>i≤1) (m:=fun i=>1-i) 0 [some 0] (ajH _) ?_
 intro i hi
 by_cases hil:i<1
 · obtain rfl:i=0:=by omega
   refine ae ?_;refine zC rw' ?_;refine aM 1 [some 0] (ajp _) zd
 · obtain rfl:i=1:=by omega
   exact zE [] hQ
def w1 (k a b:Nat):Nat:=if k=4 then bl a else b
def w2 (k a b:Nat):Nat:=if k=4 then bl b else 0
theorem mN {k a b:Nat} (h:aL k a b):aA Tryz.prog 97 [pR k a b] [] (.tup [.lit (.int .i64 (w1 k a b:Int)),.lit (.int .i64 (w2 k a b:Int))]) []:=by
 unfold w1 w2;refine zF Vs Tryz.call97 Tryz.func97 [.tmp 2,.tmp 3] fun Q hQ=>?_
 by_cases h4:k=4
 · obtain ⟨h1,h2,h3⟩:1≤a∧a≤1023∧b≤20:=by rcases h with h | h | h | h<;>omega
   rw[if_pos h4,if_pos h4] at hQ;have l1:=Au (n:=a) zo;have l2:=Au (n:=b) zo;refine ae ?_
   repeat (first | (refine aB (l1) rfl rfl ?_) | (refine aB (l2) rfl rfl ?_) | (refine ae ?_))
   exact ak [] hQ
 · rw[if_neg h4,if_neg h4] at hQ
   exact zE [] hQ
theorem AI {k a b:Nat} (h:aL k a b):w1 k a b≤10∧w2 k a b≤5:=by
 unfold w1 w2
 by_cases h4:k=4
 · obtain ⟨h1,h2,h3⟩:1≤a∧a≤1023∧b≤20:=by rcases h with h | h | h | h<;>omega
   rw[if_pos h4,if_pos h4];exact⟨bP zo,bP zo⟩
 · rw[if_neg h4,if_neg h4]
   exact⟨by rcases h with h | h | h | h<;>omega,by decide⟩
theorem wG {k a b:Nat} (h:aL k a b):aA Tryz.prog 144 [pR k a b] [] (.lit (.int .i64 ((w1 k a b+w2 k a b+1:Nat):Int))) []:=by
 have rc:=fL h;have ws:=mN h;have hw:=AI h;generalize w1 k a b=x at*
 generalize w2 k a b=y at*
 refine zF pl Tryz.call144 Tryz.func144 [.tmp 2] fun Q hQ=>?_;refine ae ?_;refine zC rc ?_;refine zC ws ?_;exact ak [] hQ
def cD (k a b:Nat) (s:Nat×Nat×Bool):List Bool:=numBits s.1 (w1 k a b)++numBits s.2.1 (w2 k a b)++[s.2.2]
theorem dL (k a b:Nat) (s:Nat×Nat×Bool):(cD k a b s).length=w1 k a b+w2 k a b+1:=by
 unfold cD;rw[ajj,ajj,aj,aj]
 rfl
theorem B9 {k a b:Nat} {s:Nat×Nat×Bool} (h:aL k a b) (w:aP k a b s):s.1<2^w1 k a b∧s.2.1<2^w2 k a b:=by
 unfold aP at w;unfold w1 w2
 by_cases h4:k=4
 · rw[if_pos h4] at w ⊢
   rw[if_pos h4];exact⟨aj9 w.1 (jY a),aj9 w.2.1 (jY b)⟩
 · rw[if_neg h4] at w ⊢
   rw[if_neg h4];have hp:1≤2^b:=ajV zd;exact⟨by omega,by rw[w.1];decide⟩
set_option maxHeartbeats 1000000 in
theorem oY {k a b:Nat} {s:Nat×Nat×Bool} {L:List Bool} (h:aL k a b) (w:aP k a b s) (hL:L.length<1099511600000):
 aA Tryz.prog 39 [pR k a b,.ref 0 0 0 0,sR s] [some (jK 1 L),some (jy L)] (.lit (.int .i64 0)) [some (jK 2 (L++cD k a b s)),none,some (jy (L++cD k a b s))]:=by
 have ww:=tU h w;have ws:=mN h;have hw:=AI h;have hlt:=B9 h w;obtain ⟨K,T,F⟩:=s;have e:L++cD k a b (K,T,F)=L++numBits K (w1 k a b)++numBits T (w2 k a b)++[F]:=by unfold cD;simp
 rw[e];clear e w;dsimp only at hlt ww;generalize w1 k a b=x at*
 generalize w2 k a b=y at*
 have hpx:2^x≤2^10:=ajv zd hw.1;have hpy:2^y≤2^5:=ajv zd hw.2;have n1:=cz (L:=L) (n:=K) (m:=(x:Int)) zo zo zo zo (by rw[aj6];exact hlt.1);have n2:=cz (L:=L++numBits K x) (n:=T) (m:=(y:Int)) zo (by rw[ajj,aj];omega) zo zo (by rw[aj6];exact hlt.2);have b1:=AA (L:=L++numBits K x++numBits T y) (x:=F) (by rw[ajj,ajj,aj,aj];omega);rw[aj6] at n1 n2;refine zF pl Tryz.call39 Tryz.func39 [.tmp 6] fun Q hQ=>?_;refine ae ?_;refine zW [] [4] ww ?_;refine zC ws ?_;refine zW [some 0,some 1] [] n1 ?_;refine zW [some 0,some 5] [] n2 ?_;refine zW [some 0,some 6] [] b1 ?_;exact ak [some 0,some 1,some 7] hQ
open Go.Eng
inductive DT (α:Type) where
 | ret (a:α)
 | ask (f g:DT α)
variable {α β:Type}
def DT.bind:DT α→(α→DT β)→DT β
 | .ret a,k=>k a
 | .ask f g,k=>.ask (f.bind k) (g.bind k)
def DT.run (L:List Bool):DT α→Nat→Option (α×Nat)
 | .ret a,p=>some (a,p)
 | .ask f g,p=>if p<L.length then(if L.getD p false then g.run L (p+1) else f.run L (p+1)) else none
def DT.mean (v:α→Rat):DT α→Rat
 | .ret a=>v a
 | .ask f g=>(f.mean v+g.mean v)/2
def DT.all (P:α→Prop):DT α→Prop
 | .ret a=>P a
 | .ask f g=>f.all P∧g.all P
theorem lN {L:List Bool} {f g:DT α} {p:Nat}:(DT.ask f g).run L p=if p<L.length then(if L.getD p false then g.run L (p+1) else f.run L (p+1)) else none:=rfl
theorem run_bind {L:List Bool} {k:α→DT β}:∀{t:DT α} {p:Nat},(t.bind k).run L p=match t.run L p with | some (a,q)=>(k a).run L q | none=>none
 | .ret a,p=>rfl
 | .ask f g,p=>by
   rw[show(DT.ask f g).bind k=.ask (f.bind k) (g.bind k) from rfl,lN,lN]
   by_cases h:p<L.length
   · rw[if_pos h,if_pos h]
     cases L.getD p false
     · exact run_bind
     · exact run_bind
   · rw[if_neg h,if_neg h]
theorem cc {v:β→Rat} {k:α→DT β}:∀{t:DT α},(t.bind k).mean v=t.mean (fun a=>(k a).mean v)
 | .ret a=>rfl
 | .ask f g=>by
   unfold DT.bind DT.mean;rw[cc,cc]
theorem all_bind {P:β→Prop} {k:α→DT β}:∀{t:DT α},(t.bind k).all P↔t.all (fun a=>(k a).all P)
 | .ret a=>Iff.rfl
 | .ask f g=>by
   unfold DT.bind DT.all;rw[all_bind,all_bind]
theorem cB {v w:α→Rat}:∀{t:DT α},t.all (fun a=>v a=w a)→t.mean v=t.mean w
 | .ret a,h=>h
 | .ask f g,h=>by
   unfold DT.mean;rw[cB h.1,cB h.2]
theorem bQ {P Q:α→Prop} (h:∀a,P a→Q a):∀{t:DT α},t.all P→t.all Q
 | .ret a,x=>h a x
 | .ask f g,x=>⟨bQ h x.1,bQ h x.2⟩
theorem vg {P Q:α→Prop}:∀{t:DT α},t.all P→t.all Q→t.all (fun a=>P a∧Q a)
 | .ret a,x,y=>⟨x,y⟩
 | .ask f g,x,y=>⟨vg x.1 y.1,vg x.2 y.2⟩
theorem all_true {P:α→Prop} (h:∀a,P a):∀{t:DT α},t.all P
 | .ret a=>h a
 | .ask f g=>⟨all_true h,all_true h⟩
theorem iT {P:α→Prop} {L:List Bool} {a:α} {q:Nat}:∀{t:DT α} {p:Nat},t.all P→t.run L p=some (a,q)→P a
 | .ret b,p,h,e=>by
   unfold DT.run at e
   cases e
   exact h
 | .ask f g,p,h,e=>by
   unfold DT.run at e
   split at e
   · split at e
     · exact iT h.2 e
     · exact iT h.1 e
   · cases e
theorem r6 {L:List Bool} {a:α} {q:Nat}:∀{t:DT α} {p:Nat},p≤L.length→t.run L p=some (a,q)→p≤q∧q≤L.length
 | .ret b,p,h,e=>by
   unfold DT.run at e
   cases e
   exact⟨ajp _,h⟩
 | .ask f g,p,h,e=>by
   unfold DT.run at e
   split at e
   · split at e
     · have:=r6 (p:=p+1) zo e;omega
     · have:=r6 (p:=p+1) zo e;omega
   · cases e
theorem sN {v w:α→Rat}:∀{t:DT α},t.mean (fun a=>v a+w a)=t.mean v+t.mean w
 | .ret a=>rfl
 | .ask f g=>by
   unfold DT.mean;rw[sN,sN]
   grind
theorem qw {v:α→Rat} {c:Rat}:∀{t:DT α},t.mean (fun a=>v a*c)=t.mean v*c
 | .ret a=>rfl
 | .ask f g=>by
   unfold DT.mean;rw[qw,qw]
   grind
theorem ee {c:Rat}:∀{t:DT α},t.mean (fun _=>c)=c
 | .ret a=>rfl
 | .ask f g=>by
   unfold DT.mean;rw[ee,ee]
   grind
def qN (D:Nat):Nat→Nat→DT Bool
 | 0,_=>.ret false
 | f+1,r=>if D≤r+r then .ask (.ret true) (if r+r-D=0 then .ret false else qN D f (r+r-D)) else .ask (if r+r=0 then .ret false else qN D f (r+r)) (.ret false)
def bit (b:Bool):Nat:=if b then 1 else 0
def vb (b:Bool):Rat:=((bit b:Nat):Int)
theorem BT {k f r:Nat} (h:f+1≤k) (hd:2^(k-(f+1))∣r):2^(k-f)∣r+r:=by
 obtain ⟨c,rfl⟩:=hd;refine⟨c,?_⟩;rw[show k-f=k-(f+1)+1 by omega,ajS];generalize 2^(k-(f+1))=x;rw[ajZ,ajJ 2 c,←ajZ];omega
theorem DB {k:Nat}:∀{f r:Nat},f≤k→r<2^k→2^(k-f)∣r→(qN (2^k) f r).mean vb*(((2^k:Nat):Int):Rat)=(((r:Nat):Int):Rat):=by
 intro f
 induction f with
 | zero=>
   intro r _ h1 h2
   have:r=0:=Nat.eq_zero_of_dvd_of_lt h2 (by simpa using h1)
   subst this;unfold qN DT.mean vb bit;rw[show(((if false=true then 1 else 0:Nat):Int):Rat)=0 from rfl,Rat.zero_mul]
   rfl
 | succ f ih=>
   intro r hk h1 h2;have h3:=BT hk h2;unfold qN;generalize hD:2^k=D at*
   have hv1:vb true=1:=rfl;have hv0:vb false=0:=rfl;have hdk:2^(k-f)∣D:=by rw[←hD];exact Nat.pow_dvd_pow 2 zo
   split
   · rename_i hge
     have h4:2^(k-f)∣r+r-D:=Nat.dvd_sub h3 hdk
     have e:(((r+r-D:Nat):Int):Rat)=(((r:Nat):Int):Rat)+(((r:Nat):Int):Rat)-(((D:Nat):Int):Rat):=by
      rw[←Rat.intCast_add,←Rat.intCast_sub]
      congr 1
      omega
     unfold DT.mean
     split
     · rename_i hz
       rw[hz] at e;rw[show(((0:Nat):Int):Rat)=0 from rfl] at e;unfold DT.mean;rw[hv1,hv0]
       grind
     · have i:=ih (r:=r+r-D) zo zo h4
       rw[e] at i;rw[show DT.mean vb (DT.ret true)=1 from rfl]
       grind
   · rename_i hge
     have e:(((r+r:Nat):Int):Rat)=(((r:Nat):Int):Rat)+(((r:Nat):Int):Rat):=by
      rw[←Rat.intCast_add]
      congr 1
     unfold DT.mean
     split
     · rename_i hz
       rw[hz] at e;rw[show(((0:Nat):Int):Rat)=0 from rfl] at e;unfold DT.mean;rw[hv0]
       grind
     · have i:=ih (r:=r+r) zo zo h3
       rw[e] at i;rw[show DT.mean vb (DT.ret false)=0 from rfl]
       grind
def fc (n k:Nat):DT Nat:=if n%2^k=0 then .ret (n/2^k) else(qN (2^k) k (n%2^k)).bind fun b=>.ret (n/2^k+bit b)
def vn (n:Nat):Rat:=((n:Nat):Int)
theorem oD (a b:Nat):vn (a*b)=vn a*vn b:=by unfold vn;simp
theorem wu (a b:Nat):vn (a+b)=vn a+vn b:=by unfold vn;simp
theorem t8 (n k:Nat):(fc n k).mean vn*vn (2^k)=vn n:=by
 unfold fc;have hd:=ajT n (2^k)
 split
 · rename_i h
   rw[h] at hd;rw[show(DT.ret (n/2^k)).mean vn=vn (n/2^k) from rfl,←oD,ajJ];rw[aky] at hd;rw[hd]
 · rw[cc]
   have h1:∀b,((DT.ret (n/2^k+bit b)).mean vn)=vn (n/2^k)+vb b:=fun b=>wu _ _;have h2:=DB (k:=k) (f:=k) (r:=n%2^k) (ajp k) (ajI _ (ajV zd)) (by rw[akz];exact Nat.one_dvd _);rw[cB (w:=fun b=>vn (n/2^k)+vb b) (all_true h1),sN,ee];have h3:vn n=vn (2^k)*vn (n/2^k)+vn (n%2^k):=by rw[←oD,←wu,hd]
   unfold vn at*
   grind
end Go.Proofs.YtcnlmelpnflhnaaGreat

namespace Go.Proofs.YtcnlmelpnflhnaaGreat
open Go.Eng Go.Vx
set_option linter.unusedSimpArgs false
set_option linter.unusedVariables false
set_option maxRecDepth 100000
def xl (N:Nat):Int:=((N*lgN (max 1 N):Nat):Int)
end Go.Proofs.YtcnlmelpnflhnaaGreat
