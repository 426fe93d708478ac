import Derived.Test.YtcnlmelpnflhnaaGreatE6
import Derived.Test.YtcnlmelpnflhnaaGreatNi
import Derived.Test.YtcnlmelpnflhnaaGreatD3
import Derived.Test.YtcnlmelpnflhnaaGreatN1
import Derived.Test.YtcnlmelpnflhnaaGreatE7
import Derived.Test.YtcnlmelpnflhnaaGreatE8
import Derived.Test.YtcnlmelpnflhnaaGreatLa
import Derived.Test.YtcnlmelpnflhnaaGreatFa
import Derived.Test.YtcnlmelpnflhnaaGreatRh
namespace Go.Proofs.YtcnlmelpnflhnaaGreat
open Go.Eng Go.Vx
set_option linter.unusedSimpArgs false
set_option linter.unusedVariables false
set_option maxRecDepth 100000
theorem JT {a b:Nat} (h:b<a):gU a b=1:=by unfold gU;rw[if_neg zo,if_pos h]
theorem Km {s:ByteArray} {z:Nat} {F:Bool→V→Prop} (h:∀z:Fin 256,pD s z.val=bl z.val) (hs:s.size=256) (hz:z<256):
 t9 Tryz.prog 9 (.lit (.string s)) (.lit (.int .u8 (z:Int))) F=F true (.lit (.int .u8 (bl z:Int))):=by
 rw[LR zo,show((z:Nat):Int).toNat=z by omega,h ⟨z,hz⟩]
theorem Bf {n:Nat} (hn:n<18446744073709551616):aC Tryz.prog 96 [.lit (.int .u64 n)] [] (.lit (.int .i64 (bl n:Int))) []:=by
 refine zF pl Tryz.call96 Tryz.func96 [.tmp 2] fun Q hQ=>?_;obtain ⟨c,hc⟩:∃c:Int,c=bl n:=⟨_,rfl⟩;rw[←hc] at hQ
 by_cases h32:4294967296≤n
 case' pos=>
  have e1:=lx (n:=n) (k:=32) h32;refine ae ?_;rw[show(n:Int)/4294967296=((n/2^32:Nat):Int) by omega];have hx:n/2^32<4294967296:=by omega
  generalize n/2^32=x at*
 case' neg=>
  refine ae ?_;have hx:n<4294967296:=by omega
  have e1:bl n=0+bl n:=by omega
  obtain ⟨x,rfl⟩:∃x,x=n:=⟨_,rfl⟩
 all_goals
  by_cases h16:65536≤x
  case' pos=>
   have e2:=lx (n:=x) (k:=16) h16;refine ae ?_;rw[show(x:Int)/65536=((x/2^16:Nat):Int) by omega];have hy:x/2^16<65536:=by omega
   generalize x/2^16=y at*
  case' neg=>
   refine ae ?_;have hy:x<65536:=by omega
   have e2:bl x=0+bl x:=by omega
   obtain ⟨y,rfl⟩:∃y,y=x:=⟨_,rfl⟩
 all_goals
  by_cases h8:256≤y
  case' pos=>
   have e3:=lx (n:=y) (k:=8) h8;refine ae ?_;rw[show(y:Int)/256=((y/2^8:Nat):Int) by omega];have hz:y/2^8<256:=by omega
   generalize y/2^8=z at*
  case' neg=>
   refine ae ?_;have hz:y<256:=by omega
   have e3:bl y=0+bl y:=by omega
   obtain ⟨z,rfl⟩:∃z,z=y:=⟨_,rfl⟩
 all_goals
  have hb8:=bB (n:=z) (k:=8) hz;rw[Km (of_decide_eq_true zk) zk hz];exact zE [] hQ
theorem dC {L:List Bool} {n:Nat} (hn:n<18446744073709551616) (h0:n≠0) (hL:L.length<1099511626000):
 aC Tryz.prog 38 [.ref 0 0 0 0,.lit (.int .u64 n)] [some (jf 1 L),some (iY L)] (.lit (.int .i64 0)) [some (jf 2 (L++aq n)),none,some (iY (L++aq n))]:=by
 refine zF pl Tryz.call38 Tryz.func38 [.tmp 4] fun Q hQ=>?_;have hb:=jc h0;have hb2:=bB (n:=n) (k:=64) hn;have hb3:=jr n;refine ae ?_;refine zC (Bf hn) ?_;rw[show((bl n:Int)-1)=((bl n-1:Nat):Int) by omega];refine zW [some 0,some 1] [] (bW (L:=L) (n:=0) (m:=((bl n-1:Nat):Int)) zo zo zo zo (aif _)) ?_;refine zW [some 0,some 2] [] (bW (L:=L++numBits 0 (bl n-1)) (n:=n) (m:=bl n) hn (by simp[ai];omega) zo zo (by simpa using hb3)) ?_;rw[agw];unfold aq at hQ;exact ak [some 0,some 1,some 3] hQ
theorem sb {L:List Bool} {n:Nat} (hn:n<18446744073709551616) (hL:L.length<1099511625000):
 aC Tryz.prog 99 [.ref 0 0 0 0,.lit (.int .u64 n)] [some (jf 1 L),some (iY L)] (.tup []) [some (jf 2 (L++cF n)),none,some (iY (L++cF n))]:=by
 refine zF pl Tryz.call99 Tryz.func99 [] fun Q hQ=>?_;refine ae ?_;have hvl:=pM n;have hb2:=bB (n:=n) (k:=64) hn
 refine aU (X:=Nat×List Bool) (st:=fun x=>([(0,.ref 0 0 0 0),(1,.lit (.int .u64 (x.1:Int)))],[some (jf 2 x.2),none,some (iY x.2)]))
  (inv:=fun x=>x.2++cF x.1=L++cF n∧x.1≤n) (m:=fun x=>x.1) (n,L) [some 0,some 1,some 1] ⟨rfl,agt _⟩ ?_
 rintro ⟨x,M⟩ ⟨hM,hx⟩;simp only at hM hx;have hlen:=congrArg List.length hM;simp only[agn] at hlen
 by_cases h:x<128
 · rw[zO h] at hM
   refine ae ?_;refine aV [some 0,some 2] [] (bW (L:=M) (n:=x) (m:=8) zo zo zo zo (by simp only[Int.reduceToNat];omega)) ?_;simp only[Int.reduceToNat];rw[hM];exact zE [some 0,some 1,some 3] hQ
 · rw[Ai h,←agw] at hM
   refine ae ?_;rw[Nl];refine aV [some 0,some 2] [] (bW (L:=M) (n:=128+x%128) (m:=8) zo zo zo zo (by simp only[Int.reduceToNat];omega)) ?_;simp only[Int.reduceToNat];refine ae ?_;refine aO (x/128,M++numBits (128+x%128) 8) [some 0,some 1,some 3] ⟨hM,by simp only;omega⟩ (by simp only;omega)
def cB (o n w:Nat):Ob:=.cells [.sl o 1 0 (aZ n w),.lit (.int .i64 (n:Int)),.lit (.int .i64 (w:Int))]
def cf (n w X:Nat):Ob:=.row 1 ((words (aZ n w) X).map (ie .u64))
attribute [go_sem] cB cf
theorem Oc {n w:Nat} (hn:n≤256) (hw:1≤w∧w≤32):aC Tryz.prog 143 [.lit (.int .i64 n),.lit (.int .i64 w)] [] (.tup [.ref 0 0 0 0,.lit (.int .i64 0)]) [some (cB 1 n w),some (cf n w 0)]:=by
 refine zF pl Tryz.call143 Tryz.func143 [.tmp 4,.tmp 5] fun Q hQ=>?_;have hp:n*w≤256*32:=agQ hn hw.2;have hc:(n:Int)*(w:Int)=((n*w:Nat):Int):=by simp
 have hd:(((n*w:Nat):Int)+64-1)/64=(aZ n w:Int):=by unfold aZ;omega
 have hd2:aZ n w≤129:=by unfold aZ;omega
 have hwz:=yA (aZ n w)
 simp(maxSteps:=1000000) (disch:=(first | omega | (simp only[dm,agr,ags,true_and,and_true];(try omega);done) | fail)) only[go_sem,hc,hd,Int.reduceEq,Int.reduceToNat,Nat.reduceAdd,Nat.reduceMul,Nat.reduceEqDiff, ↓reduceIte]
 rw[←hwz];exact ak [some 1,some 0] hQ
theorem Bc {w:Nat} (hw:1≤w∧w≤32):2≤2^w∧2^w≤4294967296:=by
 have h1:2^1≤2^w:=agA zd hw.1;have h2:2^w≤2^32:=agA zd hw.2;omega
def i6 (n w:Nat) (L:List Int):V:=.rref 3 [[.row 1 (L.map (ie .u64)),.lit (.int .i64 (n:Int)),.lit (.int .i64 (w:Int))]] 0 0
attribute [go_sem] i6
theorem kG {n w:Nat} {L:List Int} (hw:1≤w∧w≤32):aC Tryz.prog 148 [i6 n w L] [] (.lit (.int .u64 ((2^w-1:Nat):Int))) []:=by
 refine zF pl Tryz.call148 Tryz.func148 [.tmp 2] fun Q hQ=>?_;have hp:=Bc hw;have hs:=Jp (k:=w) zo;have hc:((2^w:Nat):Int)-1=((2^w-1:Nat):Int):=by omega
 have hww:IntKind.u64.wrap ((2^w-1:Nat):Int)=((2^w-1:Nat):Int):=by
  generalize 2^w-1=y at*
  exact Ca
 simp(maxSteps:=1000000) (disch:=(first | omega | (simp only[dm,agr,ags,true_and,and_true];(try omega);done) | fail)) only[go_sem,hs,hc,hww,Int.reduceEq,Int.reduceToNat,Nat.reduceAdd,Nat.reduceMul,Nat.reduceEqDiff, ↓reduceIte]
 exact ak [] hQ
theorem wL {n w i:Nat} {L:List Int} (hn:n≤256) (hw:1≤w∧w≤32) (hi:i≤256):aC Tryz.prog 147 [i6 n w L,.lit (.int .i64 i)] [] (.tup [.lit (.int .i64 (i*w/64:Nat)),.lit (.int .i64 (i*w%64:Nat))]) []:=by
 refine zF K7 Tryz.call147 Tryz.func147 [.tmp 4,.tmp 5] fun Q hQ=>?_;have hp:i*w≤256*32:=agQ hi hw.2;have hc:(i:Int)*(w:Int)=((i*w:Nat):Int):=by simp
 simp(maxSteps:=1000000) (disch:=(first | omega | (simp only[dm,agr,ags,true_and,and_true];(try omega);done) | fail)) only[go_sem,hc,Int.reduceEq,Int.reduceToNat,Nat.reduceAdd,Nat.reduceMul,Nat.reduceEqDiff, ↓reduceIte]
 exact ak [] hQ
theorem MQ {n w X i:Nat} (hn:n≤256) (hw:1≤w∧w≤32) (hi:i<n):aC Tryz.prog 98 [i6 n w (words (aZ n w) X),.lit (.int .i64 i)] [] (.tup [.lit (.int .u64 (X/2^(i*w)%2^w:Nat)),.lit (.int .i64 0)]) []:=by
 refine zF pl Tryz.call98 Tryz.func98 [.tmp 4,.tmp 5] fun Q hQ=>?_;refine ae ?_;refine eD (wL (n:=n) (w:=w) (L:=words (aZ n w) X) (i:=i) hn hw zo) ?_;have hlw:=ay (aZ n w) X;have hm:i*w+w≤n*w:=AB hi;have hk:i*w/64<aZ n w:=by unfold aZ;omega
 have hg:=aaL X (i*w/64) (i*w%64) w (agJ _ zd) hw.2;rw[agT] at hg;have hg0:=dL (X:=X) hk;have hl0:=kC X (i*w/64);have hl1:=kC X (i*w/64+1);generalize hkk:i*w/64=k at*
 generalize hbb:i*w%64=b at*
 have hb64:b<64:=by omega
 have hnw:n*w≤256*32:=agQ hn hw.2;have hkb:k≤200:=by unfold aZ at hk;omega
 have hpw:=Bc hw;have hdv:=gb (bO X k) b;have hd64:=mS (k:=b) hl0
 by_cases hbw:64<b+w
 · rw[if_pos hbw] at hg
   have hk1:k+1<aZ n w:=by unfold aZ;omega
   have hg1:=dL (X:=X) hk1;have hk2:((k:Int)+1).toNat=k+1:=by omega
   have hb2:((64:Int)-(b:Int)).toNat=64-b:=by omega
   simp(maxSteps:=1000000) (disch:=(first | omega | (simp only[dm,agr,ags,true_and,and_true];(try omega);done) | fail)) only[go_sem,hg0,hg1,hk2,hdv,hb2,wrap_mul,jo hd64 (jL (bO X (k+1)*2^(64-b))),Int.reduceEq,Int.reduceToNat,Nat.reduceAdd,Nat.reduceMul,Nat.reduceEqDiff, ↓reduceIte]
   refine eD (kG (n:=n) (w:=w) (L:=words (aZ n w) X) hw) ?_
   simp(maxSteps:=1000000) (disch:=(first | omega | (simp only[dm,agr,ags,true_and,and_true];(try omega);done) | fail)) only[go_sem,hg0,vG (Kn hd64 (jL (bO X (k+1)*2^(64-b)))) hpw.2,hg,Int.reduceEq,Int.reduceToNat,Nat.reduceAdd,Nat.reduceMul,Nat.reduceEqDiff, ↓reduceIte]
   exact ak [] hQ
 · rw[if_neg hbw,Nat.or_zero] at hg
   refine dK hg0 hdv ?_;refine eD (kG (n:=n) (w:=w) (L:=words (aZ n w) X) hw) ?_
   simp(maxSteps:=1000000) (disch:=(first | omega | (simp only[dm,agr,ags,true_and,and_true];(try omega);done) | fail)) only[go_sem,hg0,vG hd64 hpw.2,hg,Int.reduceEq,Int.reduceToNat,Nat.reduceAdd,Nat.reduceMul,Nat.reduceEqDiff, ↓reduceIte]
   exact ak [] hQ
theorem t6 {n w i:Nat} {N:List Nat} (hn:n≤256) (hw:1≤w∧w≤32) (hi:i<n) (hl:∀x∈N,x<2^w):aC Tryz.prog 98 [i6 n w (words (aZ n w) (bF w N)),.lit (.int .i64 i)] [] (.tup [.lit (.int .u64 (N.getD i 0:Nat)),.lit (.int .i64 0)]) []:=by
 rw[←nQ zo hl];exact MQ hn hw hi
theorem Ny {n w X Y i x:Nat} (hn:n≤256) (hw:1≤w∧w≤32) (hi:i<n) (hx:x<2^w) (hS:jg X Y (i*w) w x):aC Tryz.prog 130 [.ref 0 0 0 0,.lit (.int .i64 i),.lit (.int .u64 x)] [some (cB 1 n w),some (cf n w X)] (.lit (.int .i64 0)) [some (cB 1 n w),some (cf n w Y)]:=by
 refine zF Hg Tryz.call130 Tryz.func130 [.tmp 6] fun Q hQ=>?_;have hlw:=ay (aZ n w) X;refine ae ?_;refine eD (kG (n:=n) (w:=w) (L:=words (aZ n w) X) hw) ?_;have hpw:=Bc hw;refine ae ?_;refine eD (wL (n:=n) (w:=w) (L:=words (aZ n w) X) (i:=i) hn hw zo) ?_;have hlw:=ay (aZ n w) X;have hm:i*w+w≤n*w:=AB hi;have hk:i*w/64<aZ n w:=by unfold aZ;omega
 have hnw:n*w≤256*32:=agQ hn hw.2;have hdm:=agT (i*w) 64;have hg0:=dL (X:=X) hk;have hl0:=kC X (i*w/64);have hl1:=kC X (i*w/64+1);rw[←hdm] at hS;generalize hkk:i*w/64=k at*
 generalize hbb:i*w%64=b at*
 have hb64:b<64:=by omega
 have hkb:k≤200:=by unfold aZ at hk;omega
 have hw0:=Wm hS hb64 hx;have ha0:=AE hl0 (jL ((2^w-1)*2^b));have ho0:=jo (vr hl0 (jL ((2^w-1)*2^b))) (jL (x*2^b));rw[hw0] at ho0
 by_cases hbw:64<b+w
 · have hk1:k+1<aZ n w:=by unfold aZ;omega
   have hg1:=dL (X:=X) hk1;have hw1:=TD hS hb64 hw.2 hbw hx;have hxl:x<18446744073709551616:=by omega
   have hml:2^w-1<18446744073709551616:=by omega
   have ha1:=AE hl1 (mS (k:=64-b) hml);have ho1:=jo (vr hl1 (mS (k:=64-b) hml)) (mS (k:=64-b) hxl);rw[hw1] at ho1;have hk2:((k:Int)+1).toNat=k+1:=by omega
   have hb2:((64:Int)-(b:Int)).toNat=64-b:=by omega
   have hd1:=gb (2^w-1) (64-b);have hd2:=gb x (64-b);have hws:=yh hk1 hS hb64 hw.2;have hgs:((words (aZ n w) X).set k (bO Y k:Int)).getD (k+1) 0=(bO X (k+1):Int):=by rw[getD_set_ne zo,hg1]
   refine dK hg0 @wrap_mul ?_;refine eD (kG (n:=n) (w:=w) (L:=words (aZ n w) X) hw) ?_;refine V9 hg0 @wrap_mul ha0 ho0 hk2 hgs hb2 ?_;refine eD (kG (n:=n) (w:=w) (L:=(words (aZ n w) X).set k (bO Y k:Int)) hw) ?_;refine Oa hk2 hgs hb2 hd1 hd2 ha1 ho1 hws ?_;exact ak [some 0,some 1] hQ
 · have hws:=yd hk hS hb64 hw.2 hbw
   refine dK hg0 @wrap_mul ?_;refine eD (kG (n:=n) (w:=w) (L:=words (aZ n w) X) hw) ?_;refine Of hg0 @wrap_mul ha0 ho0 hws ?_;exact ak [some 0,some 1] hQ
theorem Ia {n w i x:Nat} {N:List Nat} (hn:n≤256) (hw:1≤w∧w≤32) (hi:i<n) (hx:x<2^w) (hN:N.length=n) (hl:∀x∈N,x<2^w):aC Tryz.prog 130 [.ref 0 0 0 0,.lit (.int .i64 i),.lit (.int .u64 x)] [some (cB 1 n w),some (cf n w (bF w N))] (.lit (.int .i64 0)) [some (cB 1 n w),some (cf n w (bF w (N.set i x)))]:=
 Ny hn hw hi hx (B9 zo zo hl hx)
theorem Kk {n w:Nat} {L:List Int}:aC Tryz.prog 92 [i6 n w L] [] (.lit (.int .i64 n)) []:=by
 refine zF pl Tryz.call92 Tryz.func92 [.tmp 2] fun Q hQ=>?_;exact zE [] hQ
theorem wu {n w:Nat} {L:List Int}:aC Tryz.prog 129 [i6 n w L] [] (.lit (.int .i64 w)) []:=by
 refine zF pl Tryz.call129 Tryz.func129 [.tmp 2] fun Q hQ=>?_;exact zE [] hQ
theorem CD {A B:List Int} (hA:A.length≤1099511627776) (hB:B.length≤1099511627776):aC Tryz.prog 153 [.row 1 (A.map (ie .u64)),.row 1 (B.map (ie .u64))] [] (.lit (.bool (decide (A=B)))) []:=by
 refine zF K8 Tryz.call153 Tryz.func153 [.tmp 4] fun Q hQ=>?_
 by_cases hl:A.length=B.length
 · refine ae ?_
   refine aU (X:=Nat) (st:=fun i=>([(0,.row 1 (A.map (ie .u64))),(1,.row 1 (B.map (ie .u64))),(12,.lit (.int .i64 (A.length:Int))),(13,.lit (.int .i64 (i:Int)))],[]))
    (inv:=fun i=>i≤A.length∧A.take i=B.take i) (m:=fun i=>A.length-i) 0 [] ⟨by omega,by simp⟩ ?_
   rintro i ⟨hi,ht⟩
   by_cases h:i<A.length
   · have hs:=yk h (show i<B.length by omega)
     by_cases he:A.getD i 0=B.getD i 0
     · refine ae ?_
       refine aO (i+1) [] ⟨by omega,hs.2 ⟨ht,he⟩⟩ zo
     · refine ae ?_
       rw[agq (fun e=>he (by rw[e]))] at hQ;exact ak [] hQ
   · obtain rfl:i=A.length:=by omega
     rw[agF,hl,agF] at ht;rw[agC ht] at hQ;exact zE [] hQ
 · rw[agq (fun e=>hl (by rw[e]))] at hQ
   exact zE [] hQ
theorem uP {n w X Y:Nat} (hn:n≤256) (hw:1≤w∧w≤32):aC Tryz.prog 115 [i6 n w (words (aZ n w) X),i6 n w (words (aZ n w) Y)] [] (.lit (.bool (decide (words (aZ n w) X=words (aZ n w) Y)))) []:=by
 refine zF Au Tryz.call115 Tryz.func115 [.tmp 4] fun Q hQ=>?_;have hnw:n*w≤256*32:=agQ hn hw.2;have hk:aZ n w≤200:=by unfold aZ;omega
 refine ae ?_;refine eD (CD (A:=words (aZ n w) X) (B:=words (aZ n w) Y) (by rw[ay];omega) (by rw[ay];omega)) ?_;exact zE [] hQ
theorem C3 {A:List Int} (hA:A.length≤1000000):aC Tryz.prog 136 [.row 1 (A.map (ie .u64))] [] (.sl 0 1 0 A.length) [some (.row 1 (A.map (ie .u64)))]:=by
 refine zF pl Tryz.call136 Tryz.func136 [.tmp 2] fun Q hQ=>?_
 by_cases h:A=[]
 · subst h
   refine TV ?_;refine iO ?_ ?_
   · refine ae ?_
     exact ak [none] hQ
   · refine ae ?_
     exact ak [some 1] hQ
 · have he:(A.map (ie .u64)).isEmpty=false:=by simp[h]
   have hpos:0<A.length:=by cases A with | nil=>exact absurd rfl h | cons _ _=>simp
   refine bh he ?_;exact ak [some 1] hQ
theorem BA {n w X:Nat} (hn:n≤256) (hw:1≤w∧w≤32):aC Tryz.prog 111 [i6 n w (words (aZ n w) X)] [] (.ref 0 0 0 0) [some (cB 1 n w),some (cf n w X)]:=by
 refine zF Mp Tryz.call111 Tryz.func111 [.tmp 2] fun Q hQ=>?_;have hnw:n*w≤256*32:=agQ hn hw.2;have hk:aZ n w≤200:=by unfold aZ;omega
 have hlw:=ay (aZ n w) X;refine ae ?_;refine dB (C3 (A:=words (aZ n w) X) zo) ?_;exact zE [some 1,some 0] hQ
def TK (p:Nat) (r:Bool×Int×Nat×Bool):V:=.agg [.lit (.bool r.1),.lit (.int .i64 ((r.2.2.1:Int)-(p:Int))),.lit (.int .i64 r.2.1)]
attribute [go_sem] TK
def okR (L:List Bool) (p:Nat) (r:Bool×Int×Nat×Bool):Prop:=r=(false,8,L.length,true)∨∃b e q,r=(b,e,q,false)∧e≠8∧p≤q∧q≤L.length
open Go.Eng
theorem IP:∀l:List Bool,l.take (zl l)=List.replicate (zl l) false
 | []=>rfl
 | true::l=>rfl
 | false::l=>by
   show(false::l).take (zl l+1)=List.replicate (zl l+1) false
   rw[List.take_succ_cons,IP l,ahN]
end Go.Proofs.YtcnlmelpnflhnaaGreat
