import Derived.Test.YtcnlmelpnflhnaaGreatD1
import Derived.Test.YtcnlmelpnflhnaaGreatD3
import Derived.Test.YtcnlmelpnflhnaaGreatRa
import Derived.Test.YtcnlmelpnflhnaaGreatFw
import Derived.Test.YtcnlmelpnflhnaaGreatN1
import Derived.Test.YtcnlmelpnflhnaaGreatAa
import Derived.Test.YtcnlmelpnflhnaaGreatE8
import Derived.Test.YtcnlmelpnflhnaaGreatOb
import Derived.Test.YtcnlmelpnflhnaaGreatE6
import Derived.Test.YtcnlmelpnflhnaaGreatE7
namespace Go.Proofs.YtcnlmelpnflhnaaGreat
open Go.Eng Go.Vx
set_option linter.unusedSimpArgs false
set_option linter.unusedVariables false
set_option maxRecDepth 100000
theorem OD {n:Nat} (hn:(wg n).length≤4000000):aA Tryz.prog 226 [NV n] [] (.I (bl n:Int)) []:=by
 refine zF pl Tryz.call226 Tryz.func226 [.tmp 2] fun Q hQ=>?_;have hnl:=av (wg n)
 by_cases h:n=0
 · subst h
   rw[L2] at hQ;refine bg @eU ?_;exact ai [] hQ
 · obtain ⟨h1,h2,h3⟩:=AD h
   have hg:=bt (wg n) ((wg n).length-1);have hd:decide (((nl (wg n)).length:Int)=0)=false:=akg zo;have hix:(((nl (wg n)).length:Int)-1).toNat=(wg n).length-1:=by omega
   have h64:=lu (n:=(wg n).getD ((wg n).length-1) 0) h2;rw[h3] at hQ;generalize (wg n).getD ((wg n).length-1) 0=t at*
   have hbt:=bI (n:=t) (k:=64) zo;have hsum:64*(((nl (wg n)).length:Int)-1)+(bl t:Int)=((64*((wg n).length-1)+bl t:Nat):Int):=by omega
   refine qm hd hix hg ?_;refine aC (h64) rfl rfl ?_;refine bg hsum ?_;exact ai [] hQ
def pwI (a n:Nat) (z:Nat×Nat×Nat):Prop:=∃i,z.1=a^2^i∧z.2.1=a^(n%2^i)∧z.2.2=n/2^i
theorem NT {a b:Nat} (h:b<a):iP a b=1:=by unfold iP;rw[if_neg zo,if_pos h]
theorem wo {n:Nat} (hn:n<18446744073709551616):aA Tryz.prog 146 [.lit (.int .u64 n)] [] (.I (bl n:Int)) []:=by
 refine zF pl Tryz.call146 Tryz.func146 [.tmp 2] fun Q hQ=>?_;refine ae ?_;refine zC (lu hn) ?_;exact ai [] hQ
theorem xK {a:Int}:aA Tryz.prog 234 [.I a] [] (.lit (.bool (decide (1≤a∧a≤4096)))) []:=by
 refine zF pl Tryz.call234 Tryz.func234 [.tmp 2] fun Q hQ=>?_
 by_cases h:1≤a
 · refine Fw ?_
   simp only[h,true_and] at hQ;exact ai [] hQ
 · refine HG ?_
   simp only[h,false_and,decide_false] at hQ;exact ai [] hQ
theorem I1 {a:Int}:aA Tryz.prog 245 [.I a] [] (.lit (.bool (decide (0≤a∧a≤8)))) []:=by
 refine zF pl Tryz.call245 Tryz.func245 [.tmp 2] fun Q hQ=>?_
 by_cases h:0≤a
 · refine Fw ?_
   simp only[h,true_and] at hQ;exact ai [] hQ
 · refine HG ?_
   simp only[h,false_and,decide_false] at hQ;exact ai [] hQ
theorem Hd {a:Int}:aA Tryz.prog 255 [.I a] [] (.lit (.bool (decide (1≤a∧a≤5)))) []:=by
 refine zF pl Tryz.call255 Tryz.func255 [.tmp 2] fun Q hQ=>?_
 by_cases h:1≤a
 · refine Fw ?_
   simp only[h,true_and] at hQ;exact ai [] hQ
 · refine HG ?_
   simp only[h,false_and,decide_false] at hQ;exact ai [] hQ
theorem uR {a:Int}:aA Tryz.prog 230 [.I a] [] (.lit (.bool (decide (1≤a∧a≤4096)))) []:=by
 refine zF pl Tryz.call230 Tryz.func230 [.tmp 2] fun Q hQ=>?_;refine ae ?_;refine zC xK ?_;exact ai [] hQ
theorem ui {a:Int}:aA Tryz.prog 241 [.I a] [] (.lit (.bool (decide (0≤a∧a≤8)))) []:=by
 refine zF pl Tryz.call241 Tryz.func241 [.tmp 2] fun Q hQ=>?_;refine ae ?_;refine zC I1 ?_;exact ai [] hQ
theorem uf {a:Int}:aA Tryz.prog 251 [.I a] [] (.lit (.bool (decide (1≤a∧a≤5)))) []:=by
 refine zF pl Tryz.call251 Tryz.func251 [.tmp 2] fun Q hQ=>?_;refine ae ?_;refine zC Hd ?_;exact ai [] hQ
theorem sj {a w:Int}:aA Tryz.prog 125 [.agg [.I 1,.I a,.I w]] [] (.lit (.iface 257 (.int .i64 a))) []:=by
 refine zF pl Tryz.call125 Tryz.func125 [.tmp 2] fun Q hQ=>?_;exact zE [] hQ
theorem qX {a w:Int}:aA Tryz.prog 125 [.agg [.I 2,.I a,.I w]] [] (.lit (.iface 258 (.int .i64 a))) []:=by
 refine zF pl Tryz.call125 Tryz.func125 [.tmp 2] fun Q hQ=>?_;exact zE [] hQ
theorem qW {a w:Int}:aA Tryz.prog 125 [.agg [.I 3,.I a,.I w]] [] (.lit (.iface 259 (.int .i64 a))) []:=by
 refine zF pl Tryz.call125 Tryz.func125 [.tmp 2] fun Q hQ=>?_;exact zE [] hQ
def pR (k a b:Nat):V:=.agg [.I k,.I a,.I b]
def sR (s:Nat×Nat×Bool):V:=.agg [.I s.1,.I s.2.1,.lit (.bool s.2.2)]
attribute [go_sem] pR sR
def aX (k a b:Nat):Prop:=(k=1∧1≤a∧a≤4096∧1≤b∧b≤10∧bl (a+1)*(2^b-1)≤8192)∨(k=2∧a≤8∧1≤b∧b≤10)∨(k=3∧1≤a∧a≤5∧1≤b∧b≤10)∨(k=4∧1≤a∧a≤1023∧b≤20)
def aZ (k a b:Nat) (s:Nat×Nat×Bool):Prop:=if k=4 then s.1≤a∧s.2.1≤b∧(s.2.2=true→s.2.1=b) else s.2.1=0∧s.1≤2^b-1∧(s.2.2=true→s.1=2^b-1)
theorem shW {k:Nat} (h:k≤32):IntKind.i64.wrap (1*2^k)=((2^k:Nat):Int):=by
 have h1:2^k≤2^32:=ako zd h;have h2:(1*2^k:Int)=((2^k:Nat):Int):=by simp
 rw[h2];generalize 2^k=x at*
 exact wrap_i64 ⟨by omega,by omega⟩
set_option maxHeartbeats 1000000 in
theorem pj {k a b:Nat} (h:aX k a b) (h4:k≠4):aA Tryz.prog 157 [pR k a b] [] (.I 0) []:=by
 refine zF lh Tryz.call157 Tryz.func157 [.tmp 2] fun Q hQ=>?_;rcases h with⟨rfl,h1,h2,h3,h5,h6⟩ | ⟨rfl,h2,h3,h5⟩ | ⟨rfl,h1,h2,h3,h5⟩ | ⟨rfl,_⟩
 · have g:=uR (a:=(a:Int))
   rw[aks ⟨by omega,by omega⟩] at g;have k1:=sj (a:=(a:Int)) (w:=(b:Int));have ln:=wo (n:=a+1) zo;have ha1:(a:Int)+1=((a+1:Nat):Int):=by omega
   have hs:=shW (k:=b) zo;have hp:1≤2^b:=akN zd;have hp2:2^b≤2^10:=ako zd h5;have hb:=bI (n:=a+1) (k:=13) zo
   have hm:((bl (a+1):Nat):Int)*(((2^b:Nat):Int)-1)=((bl (a+1)*(2^b-1):Nat):Int):=by
    rw[show(((2^b:Nat):Int)-1)=((2^b-1:Nat):Int) by omega]
    simp
   refine ae ?_;refine zC k1 ?_;refine aC (g) rfl rfl ?_;refine bg ha1 ?_;refine aC (ln) rfl rfl ?_;generalize bl (a+1)*(2^b-1)=m at*
   refine QI hs hm ?_;exact ai [] hQ
 · have g:=ui (a:=(a:Int))
   rw[aks ⟨by omega,by omega⟩] at g;have k1:=qX (a:=(a:Int)) (w:=(b:Int));refine ae ?_;refine zC k1 ?_;refine zC g ?_;exact ai [] hQ
 · have g:=uf (a:=(a:Int))
   rw[aks ⟨by omega,by omega⟩] at g;have k1:=qW (a:=(a:Int)) (w:=(b:Int));refine ae ?_;refine zC k1 ?_;refine zC g ?_;exact ai [] hQ
 · exact absurd rfl h4
theorem nK {k a b:Nat} (h:aX k a b) (h4:k≠4):aA Tryz.prog 128 [pR k a b] [] (.I ((2^b-1:Nat):Int)) []:=by
 have c:=pj h h4;have hb:b≤10:=by rcases h with h | h | h | h<;>omega
 have hs:=shW (k:=b) zo;have hp:1≤2^b:=akN zd;have hp2:2^b≤2^10:=ako zd hb;have he:(((2^b:Nat):Int)-1)=((2^b-1:Nat):Int):=by omega
 generalize 2^b-1=m at*
 refine zF pl Tryz.call128 Tryz.func128 [.tmp 2] fun Q hQ=>?_;refine ae ?_;refine aC (c) rfl rfl ?_;refine QI hs he ?_;exact ai [] hQ
theorem l7 {a b:Nat} (h1:1≤a) (h2:a≤1023) (h3:b≤20):aA Tryz.prog 156 [.agg [.I a,.I b]] [] (.I 0) []:=by
 refine zF pl Tryz.call156 Tryz.func156 [.tmp 2] fun Q hQ=>?_;exact zE [] hQ
theorem xW {a b:Nat} {s:Nat×Nat×Bool} (h1:1≤a) (h2:a≤1023) (h3:b≤20) (w1:s.1≤a) (w2:s.2.1≤b) (w3:s.2.2=true→s.2.1=b):aA Tryz.prog 145 [.agg [.I a,.I b],sR s] [] (.lit (.bool true)) []:=by
 have c:=l7 h1 h2 h3;obtain ⟨K,T,F⟩:=s;dsimp only at w1 w2 w3;refine zF pl Tryz.call145 Tryz.func145 [.tmp 4] fun Q hQ=>?_
 cases F with
 | true=>
   have w4:=w3 rfl;refine ae ?_;refine zC c ?_;exact ai [] hQ
 | false=>
   refine ae ?_;refine zC c ?_;exact ai [] hQ
theorem kD {k a b:Int}:aA Tryz.prog 62 [.agg [.I k,.I a,.I b]] [] (.agg [.I a,.I b]) []:=by
 refine zF pl Tryz.call62 Tryz.func62 [.cell 2 134] fun Q hQ=>?_;exact zE [] hQ
theorem jv {k a b:Int}:aA Tryz.prog 66 [.agg [.I k,.I a,.I b]] [] (.agg [.I k,.I a,.I b]) []:=by
 refine zF pl Tryz.call66 Tryz.func66 [.cell 2 143] fun Q hQ=>?_;exact zE [] hQ
theorem kY {K T:Int} {F:Bool}:aA Tryz.prog 64 [.agg [.I K,.I T,.lit (.bool F)]] [] (.agg [.I K,.I T,.lit (.bool F)]) []:=by
 refine zF pl Tryz.call64 Tryz.func64 [.cell 2 131] fun Q hQ=>?_;exact zE [] hQ
theorem fg {k a b:Nat} (h:aX k a b):aA Tryz.prog 121 [pR k a b] [] (.I 0) []:=by
 refine zF pl Tryz.call121 Tryz.func121 [.tmp 2] fun Q hQ=>?_
 by_cases h4:k=4
 · obtain ⟨h1,h2,h3⟩:1≤a∧a≤1023∧b≤20:=by rcases h with h | h | h | h<;>omega
   have c:=l7 h1 h2 h3;have t:=kD (k:=(k:Int)) (a:=(a:Int)) (b:=(b:Int));refine ae ?_;refine zC t ?_;refine zC c ?_;exact ai [] hQ
 · have c:=pj h h4
   have t:=jv (k:=(k:Int)) (a:=(a:Int)) (b:=(b:Int));refine ae ?_;refine zC t ?_;refine zC c ?_;exact ai [] hQ
set_option maxHeartbeats 1000000 in
theorem rE {k a b:Nat} {s:Nat×Nat×Bool} (h:aX k a b) (w:aZ k a b s):aA Tryz.prog 86 [pR k a b,sR s] [] (.lit (.bool true)) []:=by
 have rc:=fg h;refine zF NR Tryz.call86 Tryz.func86 [.tmp 4] fun Q hQ=>?_
 by_cases h4:k=4
 · obtain ⟨h1,h2,h3⟩:1≤a∧a≤1023∧b≤20:=by rcases h with h | h | h | h<;>omega
   unfold aZ at w;rw[if_pos h4] at w;have tw:=xW h1 h2 h3 w.1 w.2.1 w.2.2;have t:=kD (k:=(k:Int)) (a:=(a:Int)) (b:=(b:Int));have tt:=kY (K:=(s.1:Int)) (T:=(s.2.1:Int)) (F:=s.2.2);refine ae ?_;refine zC rc ?_
   repeat (first | (refine aC (t) rfl rfl ?_) | (refine aC (tt) rfl rfl ?_) | (refine aC (tw) rfl rfl ?_) | (refine ae ?_))
   exact ai [] hQ
 · have ct:=nK h h4
   have t:=jv (k:=(k:Int)) (a:=(a:Int)) (b:=(b:Int));unfold aZ at w;rw[if_neg h4] at w;obtain ⟨K,T,F⟩:=s;obtain ⟨w1,w2,w3⟩:=w;dsimp only at w1 w2 w3;generalize 2^b-1=m at*
   cases F with
   | true=>
     have w4:=w3 rfl;refine ae ?_;refine zC rc ?_;refine zC t ?_;refine zC ct ?_;exact ai [] hQ
   | false=>
     refine ae ?_;refine zC rc ?_;refine zC t ?_;refine zC ct ?_;exact ai [] hQ
theorem ux {k a b:Nat} {s:Nat×Nat×Bool} (h:aX k a b) (w:aZ k a b s):aA Tryz.prog 61 [pR k a b,.row 3 [[.I s.1,.I s.2.1,.lit (.bool s.2.2)]]] [] (.I 0) []:=by
 have rc:=fg h;have rw':=rE h w;refine zF pl Tryz.call61 Tryz.func61 [.tmp 4] fun Q hQ=>?_;refine ae ?_;refine zC rc ?_
 refine aU (X:=Nat) (st:=fun i=>([(2,.ref 0 0 0 0),(13,.row 3 [[.I s.1,.I s.2.1,.lit (.bool s.2.2)]]),(14,.I 1),(15,.I i)],
  [some (.cells [.I k,.I a,.I b])]))
  (inv:=fun i=>i≤1) (m:=fun i=>1-i) 0 [some 0] (akF _) ?_
 intro i hi
 by_cases hil:i<1
 · obtain rfl:i=0:=by omega
   refine ae ?_;refine zC rw' ?_;refine aR 1 [some 0] (akk _) zd
 · obtain rfl:i=1:=by omega
   exact zE [] hQ
def w1 (k a b:Nat):Nat:=if k=4 then bl a else b
def w2 (k a b:Nat):Nat:=if k=4 then bl b else 0
theorem mX {k a b:Nat} (h:aX k a b):aA Tryz.prog 97 [pR k a b] [] (.tup [.I (w1 k a b:Int),.I (w2 k a b:Int)]) []:=by
 unfold w1 w2;refine zF WK Tryz.call97 Tryz.func97 [.tmp 2,.tmp 3] fun Q hQ=>?_
 by_cases h4:k=4
 · obtain ⟨h1,h2,h3⟩:1≤a∧a≤1023∧b≤20:=by rcases h with h | h | h | h<;>omega
   rw[if_pos h4,if_pos h4] at hQ;have l1:=wo (n:=a) zo;have l2:=wo (n:=b) zo;refine ae ?_
   repeat (first | (refine aC (l1) rfl rfl ?_) | (refine aC (l2) rfl rfl ?_) | (refine ae ?_))
   exact ai [] hQ
 · rw[if_neg h4,if_neg h4] at hQ
   exact zE [] hQ
theorem Bh {k a b:Nat} (h:aX k a b):w1 k a b≤10∧w2 k a b≤5:=by
 unfold w1 w2
 by_cases h4:k=4
 · obtain ⟨h1,h2,h3⟩:1≤a∧a≤1023∧b≤20:=by rcases h with h | h | h | h<;>omega
   rw[if_pos h4,if_pos h4];exact⟨bI zo,bI zo⟩
 · rw[if_neg h4,if_neg h4]
   exact⟨by rcases h with h | h | h | h<;>omega,by decide⟩
theorem w8 {k a b:Nat} (h:aX k a b):aA Tryz.prog 144 [pR k a b] [] (.I ((w1 k a b+w2 k a b+1:Nat):Int)) []:=by
 have rc:=fg h;have ws:=mX h;have hw:=Bh h;generalize w1 k a b=x at*
 generalize w2 k a b=y at*
 refine zF pl Tryz.call144 Tryz.func144 [.tmp 2] fun Q hQ=>?_;refine ae ?_;refine zC rc ?_;refine zC ws ?_;exact ai [] hQ
def dr (k a b:Nat) (s:Nat×Nat×Bool):List Bool:=numBits s.1 (w1 k a b)++numBits s.2.1 (w2 k a b)++[s.2.2]
theorem ey (k a b:Nat) (s:Nat×Nat×Bool):(dr k a b s).length=w1 k a b+w2 k a b+1:=by
 unfold dr;rw[ake,ake,aj,aj]
 rfl
theorem CL {k a b:Nat} {s:Nat×Nat×Bool} (h:aX k a b) (w:aZ k a b s):s.1<2^w1 k a b∧s.2.1<2^w2 k a b:=by
 unfold aZ at w;unfold w1 w2
 by_cases h4:k=4
 · rw[if_pos h4] at w ⊢
   rw[if_pos h4];exact⟨ak4 w.1 (ko a),ak4 w.2.1 (ko b)⟩
 · rw[if_neg h4] at w ⊢
   rw[if_neg h4];have hp:1≤2^b:=akN zd;exact⟨by omega,by rw[w.1];decide⟩
set_option maxHeartbeats 1000000 in
theorem po {k a b:Nat} {s:Nat×Nat×Bool} {L:List Bool} (h:aX k a b) (w:aZ k a b s) (hL:L.length<1099511600000):
 aA Tryz.prog 39 [pR k a b,.ref 0 0 0 0,sR s] [some (jY 1 L),some (jN L)] (.I 0) [some (jY 2 (L++dr k a b s)),none,some (jN (L++dr k a b s))]:=by
 have ww:=ux h w;have ws:=mX h;have hw:=Bh h;have hlt:=CL h w;obtain ⟨K,T,F⟩:=s;have e:L++dr k a b (K,T,F)=L++numBits K (w1 k a b)++numBits T (w2 k a b)++[F]:=by unfold dr;simp
 rw[e];clear e w;dsimp only at hlt ww;generalize w1 k a b=x at*
 generalize w2 k a b=y at*
 have hpx:2^x≤2^10:=ako zd hw.1;have hpy:2^y≤2^5:=ako zd hw.2;have n1:=cC (L:=L) (n:=K) (m:=(x:Int)) zo zo zo zo (by rw[ak0];exact hlt.1);have n2:=cC (L:=L++numBits K x) (n:=T) (m:=(y:Int)) zo (by rw[ake,aj];omega) zo zo (by rw[ak0];exact hlt.2);have b1:=AZ (L:=L++numBits K x++numBits T y) (x:=F) (by rw[ake,ake,aj,aj];omega);rw[ak0] at n1 n2;refine zF pl Tryz.call39 Tryz.func39 [.tmp 6] fun Q hQ=>?_;refine ae ?_;refine zW [] [4] ww ?_;refine zC ws ?_;refine zW [some 0,some 1] [] n1 ?_;refine zW [some 0,some 5] [] n2 ?_;refine zW [some 0,some 6] [] b1 ?_;exact ai [some 0,some 1,some 7] hQ
theorem ik {L:List Bool} (hm:L.length<1099511627776):aA Tryz.prog 45 [.ref 0 0 0 0] [some (jY 1 L),some (jN L)] (.row 1 ((pk L).map (ie .u8))) [some (jY 1 L),some (jN L)]:=by
 refine zF pl Tryz.call45 Tryz.func45 [.tmp 2] fun Q hQ=>?_;have hpl:=k9 L;have e:List.take 0 (List.replicate (pk L).length (0:Int))++List.take (pk L).length (pk L)++List.drop (List.take (pk L).length (pk L)).length (List.replicate (pk L).length 0)=pk L:=by simp
 refine ae ?_;rw[e];exact ai [some 0,some 1] hQ
def three (k x:Nat):List Bool:=numBits x (k+1)++HD (x ||| 1)++cR x
theorem RB:pr=2305843009213693951:=rfl
theorem Ak {a b:Nat} (ha:a<2305843009213693951) (hb:b<2305843009213693951):aA Tryz.prog 83 [.agg [.lit (.int .u64 a),.lit (.int .u64 b)]] [] (.I 0) []:=by
 refine zF pl Tryz.call83 Tryz.func83 [.tmp 2] fun Q hQ=>?_;exact zE [] hQ
theorem OT {a b k:Nat} (ha:a<18446744073709551616) (hb:b<2305843009213693951) (hk:k<18446744073709551616):aA Tryz.prog 141 [.agg [.lit (.int .u64 a),.lit (.int .u64 b)],.lit (.int .u64 k)] [] (.lit (.int .u64 (((a*k+b)%pr:Nat):Int))) []:=by
 refine zF Qw Tryz.call141 Tryz.func141 [.tmp 4] fun Q hQ=>?_;refine ae ?_;refine aC (Ns ha hk) rfl rfl ?_;have e:(a*k+b)%pr=(a*k%pr+b)%2305843009213693951:=by rw[RB,Nat.mod_add_mod]
 have hm:a*k%pr<2305843009213693951:=akD _ zd;rw[e] at hQ;generalize a*k%pr=m at*
 have f:((m:Int)+(b:Int))%2305843009213693951=(((m+b)%2305843009213693951:Nat):Int):=by omega
 refine bg f ?_;exact ai [] hQ
theorem ja {a b k c:Nat} (ha:a<2305843009213693951) (hb:b<2305843009213693951) (hk:k<2305843009213693951) (hc:1≤c∧c≤64):aA Tryz.prog 76 [.agg [.lit (.int .u64 a),.lit (.int .u64 b)],.lit (.int .u64 k),.I c] [] (.tup [.I (((a*k+b)%pr%c:Nat):Int),.I 0]) []:=by
 refine zF pl Tryz.call76 Tryz.func76 [.tmp 6,.tmp 7] fun Q hQ=>?_;refine ae ?_;refine zC (Ak ha hb) ?_;refine aC (OT zo hb zo) rfl rfl ?_;have hm:(a*k+b)%pr<2305843009213693951:=akD _ zd;generalize (a*k+b)%pr=m at*
 have hmc:m%c<64:=akT (akD _ zo) hc.2;have f:(m:Int)%(c:Int)=((m%c:Nat):Int):=by simp
 have f2:(m:Int).tmod (c:Int)=((m%c:Nat):Int):=by rw[al7 zo];exact f
 refine eo f f2 ?_;exact ai [] hQ
end Go.Proofs.YtcnlmelpnflhnaaGreat
