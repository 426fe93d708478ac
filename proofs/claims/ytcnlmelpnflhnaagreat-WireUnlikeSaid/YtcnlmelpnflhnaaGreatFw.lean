import Derived.Test.YtcnlmelpnflhnaaGreatE6
import Derived.Test.YtcnlmelpnflhnaaGreatFb
import Derived.Test.YtcnlmelpnflhnaaGreatD3
import Derived.Test.YtcnlmelpnflhnaaGreatN1
import Derived.Test.YtcnlmelpnflhnaaGreatE7
import Derived.Test.YtcnlmelpnflhnaaGreatE8
import Derived.Test.YtcnlmelpnflhnaaGreatFa
namespace Go.Proofs.YtcnlmelpnflhnaaGreat
open Go.Eng Go.Vx
set_option linter.unusedSimpArgs false
set_option linter.unusedVariables false
set_option maxRecDepth 100000
theorem Mp {a b:Nat} (h:b<a):iI a b=1:=by unfold iI;rw[if_neg zo,if_pos h]
theorem MT {s:ByteArray} {z:Nat} {F:Bool→V→Prop} (h:∀z:Fin 256,qL s z.val=bl z.val) (hs:s.size=256) (hz:z<256):
 pI Tryz.prog 9 (.lit (.string s)) (.lit (.int .u8 (z:Int))) F=F true (.lit (.int .u8 (bl z:Int))):=by
 rw[Ow zo,show((z:Nat):Int).toNat=z by omega,h ⟨z,hz⟩]
theorem Dq {n:Nat} (hn:n<18446744073709551616):aA Tryz.prog 96 [.lit (.int .u64 n)] [] (.lit (.int .i64 (bl n:Int))) []:=by
 refine zF pl Tryz.call96 Tryz.func96 [.tmp 2] fun Q hQ=>?_;obtain ⟨c,hc⟩:∃c:Int,c=bl n:=⟨_,rfl⟩;rw[←hc] at hQ
 by_cases h32:4294967296≤n
 case' pos=>
  have e1:=mE (n:=n) (k:=32) h32;refine ae ?_;rw[show(n:Int)/4294967296=((n/2^32:Nat):Int) by omega];have hx:n/2^32<4294967296:=by omega
  generalize n/2^32=x at*
 case' neg=>
  refine ae ?_;have hx:n<4294967296:=by omega
  have e1:bl n=0+bl n:=by omega
  obtain ⟨x,rfl⟩:∃x,x=n:=⟨_,rfl⟩
 all_goals
  by_cases h16:65536≤x
  case' pos=>
   have e2:=mE (n:=x) (k:=16) h16;refine ae ?_;rw[show(x:Int)/65536=((x/2^16:Nat):Int) by omega];have hy:x/2^16<65536:=by omega
   generalize x/2^16=y at*
  case' neg=>
   refine ae ?_;have hy:x<65536:=by omega
   have e2:bl x=0+bl x:=by omega
   obtain ⟨y,rfl⟩:∃y,y=x:=⟨_,rfl⟩
 all_goals
  by_cases h8:256≤y
  case' pos=>
   have e3:=mE (n:=y) (k:=8) h8;refine ae ?_;rw[show(y:Int)/256=((y/2^8:Nat):Int) by omega];have hz:y/2^8<256:=by omega
   generalize y/2^8=z at*
  case' neg=>
   refine ae ?_;have hz:y<256:=by omega
   have e3:bl y=0+bl y:=by omega
   obtain ⟨z,rfl⟩:∃z,z=y:=⟨_,rfl⟩
 all_goals
  have hb8:=bP (n:=z) (k:=8) hz;rw[MT (of_decide_eq_true zk) zk hz];exact zE [] hQ
theorem dV {L:List Bool} {n:Nat} (hn:n<18446744073709551616) (h0:n≠0) (hL:L.length<1099511626000):
 aA Tryz.prog 38 [.ref 0 0 0 0,.lit (.int .u64 n)] [some (jK 1 L),some (jy L)] (.lit (.int .i64 0)) [some (jK 2 (L++ai n)),none,some (jy (L++ai n))]:=by
 refine zF pl Tryz.call38 Tryz.func38 [.tmp 4] fun Q hQ=>?_;have hb:=jH h0;have hb2:=bP (n:=n) (k:=64) hn;have hb3:=jY n;refine ae ?_;refine zC (Dq hn) ?_;rw[show((bl n:Int)-1)=((bl n-1:Nat):Int) by omega];refine zW [some 0,some 1] [] (cz (L:=L) (n:=0) (m:=((bl n-1:Nat):Int)) zo zo zo zo (ak9 _)) ?_;refine zW [some 0,some 2] [] (cz (L:=L++numBits 0 (bl n-1)) (n:=n) (m:=bl n) hn (by simp[aj];omega) zo zo (by simpa using hb3)) ?_;rw[ajq];unfold ai at hQ;exact ak [some 0,some 1,some 3] hQ
theorem tW {L:List Bool} {n:Nat} (hn:n<18446744073709551616) (hL:L.length<1099511625000):
 aA Tryz.prog 99 [.ref 0 0 0 0,.lit (.int .u64 n)] [some (jK 1 L),some (jy L)] (.tup []) [some (jK 2 (L++cZ n)),none,some (jy (L++cZ n))]:=by
 refine zF pl Tryz.call99 Tryz.func99 [] fun Q hQ=>?_;refine ae ?_;have hvl:=qT n;have hb2:=bP (n:=n) (k:=64) hn
 refine aR (X:=Nat×List Bool) (st:=fun x=>([(0,.ref 0 0 0 0),(1,.lit (.int .u64 (x.1:Int)))],[some (jK 2 x.2),none,some (jy x.2)]))
  (inv:=fun x=>x.2++cZ x.1=L++cZ n∧x.1≤n) (m:=fun x=>x.1) (n,L) [some 0,some 1,some 1] ⟨rfl,ajp _⟩ ?_
 rintro ⟨x,M⟩ ⟨hM,hx⟩;simp only at hM hx;have hlen:=congrArg List.length hM;simp only[ajj] at hlen
 by_cases h:x<128
 · rw[B4 h] at hM
   refine ae ?_;refine aF [some 0,some 2] [] (cz (L:=M) (n:=x) (m:=8) zo zo zo zo (by simp only[Int.reduceToNat];omega)) ?_;simp only[Int.reduceToNat];rw[hM];exact zE [some 0,some 1,some 3] hQ
 · rw[Cv h,←ajq] at hM
   refine ae ?_;rw[Qb];refine aF [some 0,some 2] [] (cz (L:=M) (n:=128+x%128) (m:=8) zo zo zo zo (by simp only[Int.reduceToNat];omega)) ?_;simp only[Int.reduceToNat];refine ae ?_;refine aM (x/128,M++numBits (128+x%128) 8) [some 0,some 1,some 3] ⟨hM,by simp only;omega⟩ (by simp only;omega)
def cC (o n w:Nat):Ob:=.cells [.sl o 1 0 (aZ n w),.lit (.int .i64 (n:Int)),.lit (.int .i64 (w:Int))]
def ch (n w X:Nat):Ob:=.row 1 ((words (aZ n w) X).map (ie .u64))
attribute [go_sem] cC ch
theorem Q4 {n w:Nat} (hn:n≤256) (hw:1≤w∧w≤32):aA Tryz.prog 143 [.lit (.int .i64 n),.lit (.int .i64 w)] [] (.tup [.ref 0 0 0 0,.lit (.int .i64 0)]) [some (cC 1 n w),some (ch n w 0)]:=by
 refine zF pl Tryz.call143 Tryz.func143 [.tmp 4,.tmp 5] fun Q hQ=>?_;have hp:n*w≤256*32:=ajO hn hw.2;have hc:(n:Int)*(w:Int)=((n*w:Nat):Int):=by simp
 have hd:(((n*w:Nat):Int)+64-1)/64=(aZ n w:Int):=by unfold aZ;omega
 have hd2:aZ n w≤129:=by unfold aZ;omega
 have hwz:=AQ (aZ n w)
 simp(maxSteps:=1000000) (disch:=(first | omega | (simp only[cQ,ajl,ajo,true_and,and_true];(try omega);done) | fail)) only[go_sem,hc,hd,Int.reduceEq,Int.reduceToNat,Nat.reduceAdd,Nat.reduceMul,Nat.reduceEqDiff, ↓reduceIte]
 rw[←hwz];exact ak [some 1,some 0] hQ
theorem Dm {w:Nat} (hw:1≤w∧w≤32):2≤2^w∧2^w≤4294967296:=by
 have h1:2^1≤2^w:=ajv zd hw.1;have h2:2^w≤2^32:=ajv zd hw.2;omega
def jC (n w:Nat) (L:List Int):V:=.rref 3 [[.row 1 (L.map (ie .u64)),.lit (.int .i64 (n:Int)),.lit (.int .i64 (w:Int))]] 0 0
attribute [go_sem] jC
theorem lL {n w:Nat} {L:List Int} (hw:1≤w∧w≤32):aA Tryz.prog 148 [jC n w L] [] (.lit (.int .u64 ((2^w-1:Nat):Int))) []:=by
 refine zF pl Tryz.call148 Tryz.func148 [.tmp 2] fun Q hQ=>?_;have hp:=Dm hw;have hs:=CH (k:=w) zo;have hc:((2^w:Nat):Int)-1=((2^w-1:Nat):Int):=by omega
 have hww:IntKind.u64.wrap ((2^w-1:Nat):Int)=((2^w-1:Nat):Int):=by
  generalize 2^w-1=y at*
  exact FA
 simp(maxSteps:=1000000) (disch:=(first | omega | (simp only[cQ,ajl,ajo,true_and,and_true];(try omega);done) | fail)) only[go_sem,hs,hc,hww,Int.reduceEq,Int.reduceToNat,Nat.reduceAdd,Nat.reduceMul,Nat.reduceEqDiff, ↓reduceIte]
 exact ak [] hQ
theorem yQ {n w i:Nat} {L:List Int} (hn:n≤256) (hw:1≤w∧w≤32) (hi:i≤256):aA Tryz.prog 147 [jC n w L,.lit (.int .i64 i)] [] (.tup [.lit (.int .i64 (i*w/64:Nat)),.lit (.int .i64 (i*w%64:Nat))]) []:=by
 refine zF Ny Tryz.call147 Tryz.func147 [.tmp 4,.tmp 5] fun Q hQ=>?_;have hp:i*w≤256*32:=ajO hi hw.2;have hc:(i:Int)*(w:Int)=((i*w:Nat):Int):=by simp
 simp(maxSteps:=1000000) (disch:=(first | omega | (simp only[cQ,ajl,ajo,true_and,and_true];(try omega);done) | fail)) only[go_sem,hc,Int.reduceEq,Int.reduceToNat,Nat.reduceAdd,Nat.reduceMul,Nat.reduceEqDiff, ↓reduceIte]
 exact ak [] hQ
theorem PC {n w X i:Nat} (hn:n≤256) (hw:1≤w∧w≤32) (hi:i<n):aA Tryz.prog 98 [jC n w (words (aZ n w) X),.lit (.int .i64 i)] [] (.tup [.lit (.int .u64 (X/2^(i*w)%2^w:Nat)),.lit (.int .i64 0)]) []:=by
 refine zF pl Tryz.call98 Tryz.func98 [.tmp 4,.tmp 5] fun Q hQ=>?_;refine ae ?_;refine aW (yQ (n:=n) (w:=w) (L:=words (aZ n w) X) (i:=i) hn hw zo) ?_;have hlw:=aq (aZ n w) X;have hm:i*w+w≤n*w:=CP hi;have hk:i*w/64<aZ n w:=by unfold aZ;omega
 have hg:=ad6 X (i*w/64) (i*w%64) w (ajI _ zd) hw.2;rw[ajT] at hg;have hg0:=ek (X:=X) hk;have hl0:=lH X (i*w/64);have hl1:=lH X (i*w/64+1);generalize hkk:i*w/64=k at*
 generalize hbb:i*w%64=b at*
 have hb64:b<64:=by omega
 have hnw:n*w≤256*32:=ajO hn hw.2;have hkb:k≤200:=by unfold aZ at hk;omega
 have hpw:=Dm hw;have hdv:=gQ (cf X k) b;have hd64:=nZ (k:=b) hl0
 by_cases hbw:64<b+w
 · rw[if_pos hbw] at hg
   have hk1:k+1<aZ n w:=by unfold aZ;omega
   have hg1:=ek (X:=X) hk1;have hk2:((k:Int)+1).toNat=k+1:=by omega
   have hb2:((64:Int)-(b:Int)).toNat=64-b:=by omega
   simp(maxSteps:=1000000) (disch:=(first | omega | (simp only[cQ,ajl,ajo,true_and,and_true];(try omega);done) | fail)) only[go_sem,hg0,hg1,hk2,hdv,hb2,wrap_mul,iE hd64 (ko (cf X (k+1)*2^(64-b))),Int.reduceEq,Int.reduceToNat,Nat.reduceAdd,Nat.reduceMul,Nat.reduceEqDiff, ↓reduceIte]
   refine aW (lL (n:=n) (w:=w) (L:=words (aZ n w) X) hw) ?_
   simp(maxSteps:=1000000) (disch:=(first | omega | (simp only[cQ,ajl,ajo,true_and,and_true];(try omega);done) | fail)) only[go_sem,hg0,xM (MU hd64 (ko (cf X (k+1)*2^(64-b)))) hpw.2,hg,Int.reduceEq,Int.reduceToNat,Nat.reduceAdd,Nat.reduceMul,Nat.reduceEqDiff, ↓reduceIte]
   exact ak [] hQ
 · rw[if_neg hbw,Nat.or_zero] at hg
   refine ej hg0 hdv ?_;refine aW (lL (n:=n) (w:=w) (L:=words (aZ n w) X) hw) ?_
   simp(maxSteps:=1000000) (disch:=(first | omega | (simp only[cQ,ajl,ajo,true_and,and_true];(try omega);done) | fail)) only[go_sem,hg0,xM hd64 hpw.2,hg,Int.reduceEq,Int.reduceToNat,Nat.reduceAdd,Nat.reduceMul,Nat.reduceEqDiff, ↓reduceIte]
   exact ak [] hQ
theorem v9 {n w i:Nat} {N:List Nat} (hn:n≤256) (hw:1≤w∧w≤32) (hi:i<n) (hl:∀x∈N,x<2^w):aA Tryz.prog 98 [jC n w (words (aZ n w) (aV w N)),.lit (.int .i64 i)] [] (.tup [.lit (.int .u64 (N.getD i 0:Nat)),.lit (.int .i64 0)]) []:=by
 rw[←o9 zo hl];exact PC hn hw hi
theorem Qr {n w X Y i x:Nat} (hn:n≤256) (hw:1≤w∧w≤32) (hi:i<n) (hx:x<2^w) (hS:jN X Y (i*w) w x):aA Tryz.prog 130 [.ref 0 0 0 0,.lit (.int .i64 i),.lit (.int .u64 x)] [some (cC 1 n w),some (ch n w X)] (.lit (.int .i64 0)) [some (cC 1 n w),some (ch n w Y)]:=by
 refine zF Jn Tryz.call130 Tryz.func130 [.tmp 6] fun Q hQ=>?_;have hlw:=aq (aZ n w) X;refine ae ?_;refine aW (lL (n:=n) (w:=w) (L:=words (aZ n w) X) hw) ?_;have hpw:=Dm hw;refine ae ?_;refine aW (yQ (n:=n) (w:=w) (L:=words (aZ n w) X) (i:=i) hn hw zo) ?_;have hlw:=aq (aZ n w) X;have hm:i*w+w≤n*w:=CP hi;have hk:i*w/64<aZ n w:=by unfold aZ;omega
 have hnw:n*w≤256*32:=ajO hn hw.2;have hdm:=ajT (i*w) 64;have hg0:=ek (X:=X) hk;have hl0:=lH X (i*w/64);have hl1:=lH X (i*w/64+1);rw[←hdm] at hS;generalize hkk:i*w/64=k at*
 generalize hbb:i*w%64=b at*
 have hb64:b<64:=by omega
 have hkb:k≤200:=by unfold aZ at hk;omega
 have hw0:=Zy hS hb64 hx;have ha0:=CR hl0 (ko ((2^w-1)*2^b));have ho0:=iE (xy hl0 (ko ((2^w-1)*2^b))) (ko (x*2^b));rw[hw0] at ho0
 by_cases hbw:64<b+w
 · have hk1:k+1<aZ n w:=by unfold aZ;omega
   have hg1:=ek (X:=X) hk1;have hw1:=Wv hS hb64 hw.2 hbw hx;have hxl:x<18446744073709551616:=by omega
   have hml:2^w-1<18446744073709551616:=by omega
   have ha1:=CR hl1 (nZ (k:=64-b) hml);have ho1:=iE (xy hl1 (nZ (k:=64-b) hml)) (nZ (k:=64-b) hxl);rw[hw1] at ho1;have hk2:((k:Int)+1).toNat=k+1:=by omega
   have hb2:((64:Int)-(b:Int)).toNat=64-b:=by omega
   have hd1:=gQ (2^w-1) (64-b);have hd2:=gQ x (64-b);have hws:=Aw hk1 hS hb64 hw.2;have hgs:((words (aZ n w) X).set k (cf Y k:Int)).getD (k+1) 0=(cf X (k+1):Int):=by rw[getD_set_ne zo,hg1]
   refine ej hg0 @wrap_mul ?_;refine aW (lL (n:=n) (w:=w) (L:=words (aZ n w) X) hw) ?_;refine XN hg0 @wrap_mul ha0 ho0 hk2 hgs hb2 ?_;refine aW (lL (n:=n) (w:=w) (L:=(words (aZ n w) X).set k (cf Y k:Int)) hw) ?_;refine PJ hk2 hgs hb2 hd1 hd2 ha1 ho1 hws ?_;exact ak [some 0,some 1] hQ
 · have hws:=As hk hS hb64 hw.2 hbw
   refine ej hg0 @wrap_mul ?_;refine aW (lL (n:=n) (w:=w) (L:=words (aZ n w) X) hw) ?_;refine PN hg0 @wrap_mul ha0 ho0 hws ?_;exact ak [some 0,some 1] hQ
theorem KB {n w i x:Nat} {N:List Nat} (hn:n≤256) (hw:1≤w∧w≤32) (hi:i<n) (hx:x<2^w) (hN:N.length=n) (hl:∀x∈N,x<2^w):aA Tryz.prog 130 [.ref 0 0 0 0,.lit (.int .i64 i),.lit (.int .u64 x)] [some (cC 1 n w),some (ch n w (aV w N))] (.lit (.int .i64 0)) [some (cC 1 n w),some (ch n w (aV w (N.set i x)))]:=
 Qr hn hw hi hx (En zo zo hl hx)
theorem MR {n w:Nat} {L:List Int}:aA Tryz.prog 92 [jC n w L] [] (.lit (.int .i64 n)) []:=by
 refine zF pl Tryz.call92 Tryz.func92 [.tmp 2] fun Q hQ=>?_;exact zE [] hQ
theorem yE {n w:Nat} {L:List Int}:aA Tryz.prog 129 [jC n w L] [] (.lit (.int .i64 w)) []:=by
 refine zF pl Tryz.call129 Tryz.func129 [.tmp 2] fun Q hQ=>?_;exact zE [] hQ
theorem EO {A B:List Int} (hA:A.length≤1099511627776) (hB:B.length≤1099511627776):aA Tryz.prog 153 [.row 1 (A.map (ie .u64)),.row 1 (B.map (ie .u64))] [] (.lit (.bool (decide (A=B)))) []:=by
 refine zF Nz Tryz.call153 Tryz.func153 [.tmp 4] fun Q hQ=>?_
 by_cases hl:A.length=B.length
 · refine ae ?_
   refine aR (X:=Nat) (st:=fun i=>([(0,.row 1 (A.map (ie .u64))),(1,.row 1 (B.map (ie .u64))),(12,.lit (.int .i64 (A.length:Int))),(13,.lit (.int .i64 (i:Int)))],[]))
    (inv:=fun i=>i≤A.length∧A.take i=B.take i) (m:=fun i=>A.length-i) 0 [] ⟨by omega,by simp⟩ ?_
   rintro i ⟨hi,ht⟩
   by_cases h:i<A.length
   · have hs:=rA h (show i<B.length by omega)
     by_cases he:A.getD i 0=B.getD i 0
     · refine ae ?_
       refine aM (i+1) [] ⟨by omega,hs.2 ⟨ht,he⟩⟩ zo
     · refine ae ?_
       rw[ajn (fun e=>he (by rw[e]))] at hQ;exact ak [] hQ
   · obtain rfl:i=A.length:=by omega
     rw[ajz,hl,ajz] at ht;rw[aju ht] at hQ;exact zE [] hQ
 · rw[ajn (fun e=>hl (by rw[e]))] at hQ
   exact zE [] hQ
theorem w8 {n w X Y:Nat} (hn:n≤256) (hw:1≤w∧w≤32):aA Tryz.prog 115 [jC n w (words (aZ n w) X),jC n w (words (aZ n w) Y)] [] (.lit (.bool (decide (words (aZ n w) X=words (aZ n w) Y)))) []:=by
 refine zF CI Tryz.call115 Tryz.func115 [.tmp 4] fun Q hQ=>?_;have hnw:n*w≤256*32:=ajO hn hw.2;have hk:aZ n w≤200:=by unfold aZ;omega
 refine ae ?_;refine aW (EO (A:=words (aZ n w) X) (B:=words (aZ n w) Y) (by rw[aq];omega) (by rw[aq];omega)) ?_;exact zE [] hQ
theorem Fc {A:List Int} (hA:A.length≤1000000):aA Tryz.prog 136 [.row 1 (A.map (ie .u64))] [] (.sl 0 1 0 A.length) [some (.row 1 (A.map (ie .u64)))]:=by
 refine zF pl Tryz.call136 Tryz.func136 [.tmp 2] fun Q hQ=>?_
 by_cases h:A=[]
 · subst h
   refine Zu ?_;refine jn ?_ ?_
   · refine ae ?_
     exact ak [none] hQ
   · refine ae ?_
     exact ak [some 1] hQ
 · have he:(A.map (ie .u64)).isEmpty=false:=by simp[h]
   have hpos:0<A.length:=by cases A with | nil=>exact absurd rfl h | cons _ _=>simp
   refine br he ?_;exact ak [some 1] hQ
theorem DL {n w X:Nat} (hn:n≤256) (hw:1≤w∧w≤32):aA Tryz.prog 111 [jC n w (words (aZ n w) X)] [] (.ref 0 0 0 0) [some (cC 1 n w),some (ch n w X)]:=by
 refine zF O6 Tryz.call111 Tryz.func111 [.tmp 2] fun Q hQ=>?_;have hnw:n*w≤256*32:=ajO hn hw.2;have hk:aZ n w≤200:=by unfold aZ;omega
 have hlw:=aq (aZ n w) X;refine ae ?_;refine bI (Fc (A:=words (aZ n w) X) zo) ?_;exact zE [some 1,some 0] hQ
theorem AD {x:Rat} {L:List Bool} {p p':Nat} {d d' r1:Bool} {r2:Int} (hx:¬x.num<0) (hs:RS 400000 x)
 (hr:aA Tryz.prog 189 [.ref 0 0 0 0,NV x.num.natAbs,NV x.den] [some (bt L p d)] (.tup [.lit (.bool r1),.lit (.int .i64 r2)]) [some (bt L p' d')]):
 aA Tryz.prog 170 [.ref 0 0 0 0,RV x] [some (bt L p d)] (.tup [.lit (.bool r1),.lit (.int .i64 r2)]) [some (bt L p' d')]:=by
 obtain ⟨hs1,hs2⟩:=hs;have e:RV x=.agg [.row 1 ((nl (wg x.num.natAbs)).map (ie .u64)),.lit (.bool false),.row 1 ((nl (wg (x.den-1))).map (ie .u64))]:=by unfold RV;rw[ajn hx]
 have ew:WV x.num=.agg [.row 1 ((nl (wg x.num.natAbs)).map (ie .u64)),.lit (.bool false)]:=by unfold WV;rw[ajn hx]
 have h1:=MH (x:=x);have h2:=p7 (z:=x.num);have h3:=jQ (z:=x.num);have h4:=pY (x:=x) zo;rw[e] at h1 h4 ⊢;rw[ew] at h1 h2 h3;rw[ajn hx] at h2;refine zF Oa Tryz.call170 Tryz.func170 [.tmp 4,.tmp 5] fun Q hQ=>?_;refine ae ?_;refine zC h1 ?_;refine zC h2 ?_;refine zC h1 ?_;refine zC h3 ?_;refine zC h4 ?_;refine zW [some 0] [] hr ?_;exact ak [some 0] hQ
theorem rk {L:List Bool} {D g:Nat} (hg:0<g):∀f r p,ox L (g*D) f (g*r) p=ox L D f r p
 | 0,_,_=>rfl
 | f+1,r,p=>by
   rw[i7,i7];have e1:g*r+g*r=g*(r+r):=by rw[aj0]
   have e2:(g*D≤g*(r+r))=(D≤r+r):=propext ⟨fun h=>Nat.le_of_mul_le_mul_left h hg,fun h=>akk g h⟩
   have e3:(if D≤r+r then g*(r+r)-g*D else g*(r+r))=g*(if D≤r+r then r+r-D else r+r):=by
    split
    · rw[Nat.mul_sub]
    · rfl
   have e4:∀z,(g*z≠0)=(z≠0):=fun z=>propext ⟨fun h e=>h (by rw[e,alB]),fun h=>Nat.mul_ne_zero zo h⟩;simp only[e1,e2,e3,e4,rk hg f]
theorem rH {L:List Bool} {P D g p:Nat} (hg:0<g):fm L (g*P) (g*D) p=fm L P D p:=by
 unfold fm;have e1:(g*D=0)=(D=0):=propext ⟨fun h=>(Nat.mul_eq_zero.1 h).resolve_left zo,fun h=>by rw[h,alB]⟩;have e2:(g*P=0)=(P=0):=propext ⟨fun h=>(Nat.mul_eq_zero.1 h).resolve_left zo,fun h=>by rw[h,alB]⟩;have e3:(g*D<g*P)=(D<P):=propext ⟨fun h=>Nat.lt_of_mul_lt_mul_left h,fun h=>Nat.mul_lt_mul_of_pos_left h hg⟩;have e4:(g*P=g*D)=(P=D):=propext ⟨fun h=>Nat.eq_of_mul_eq_mul_left hg h,fun h=>by rw[h]⟩;simp only[e1,e2,e3,e4,rk hg]
theorem L6 {L:List Bool} {n d p:Nat} (hd:d≠0):fm L (mkRat (n:Int) d).num.natAbs (mkRat (n:Int) d).den p=fm L n d p:=by
 rw[eR hd,iw hd,kB,akd];have hg:0<Nat.gcd n d:=Nat.gcd_pos_of_pos_right _ zo;have h:=rH (L:=L) (P:=n/Nat.gcd n d) (D:=d/Nat.gcd n d) (p:=p) hg;rw[Nat.mul_div_cancel' (alP n d),Nat.mul_div_cancel' (Nat.gcd_dvd_right n d)] at h;exact h.symm
theorem uI {n d:Nat} (hd:d≠0):¬(mkRat (n:Int) d).num<0:=by
 rw[eR hd,ajn (show¬(n:Int)<0 by omega)];exact Int.not_lt.2 (Int.natCast_nonneg _)
theorem vF {x:Rat} (hx:¬x.num<0):x-((x.floor:Int):Rat)=mkRat ((x.num.natAbs%x.den:Nat):Int) x.den:=by
 rw[Rat.sub_def',Rat.num_intCast,Rat.den_intCast,Rat.floor_def,ak6]
 congr 1
 have h:=Int.mul_ediv_add_emod x.num x.den
 have e:((x.num.natAbs%x.den:Nat):Int)=x.num%x.den:=by
  rw[Int.natCast_emod];congr 1;omega
 rw[e,Int.natCast_one,Int.mul_one,Int.mul_comm];omega
theorem Fm {x:Rat} (hx:¬x.num<0):x.floor=((x.num.natAbs/x.den:Nat):Int):=by
 rw[Rat.floor_def,Int.natCast_ediv];congr 1;omega
def oz (L:List Bool) (n d p:Nat):Int×Int×Nat×Bool:=
 let r:=fm L (n%d) d p
 (if r.2.1=0 then((n/d+(if r.1 then 1 else 0):Nat):Int) else 0,r.2.1,r.2.2.1,r.2.2.2)
theorem IV {x y:Rat}:BS x y<0↔x<y:=by
 unfold BS
 split
 · rename_i h;simp[h]
 · rename_i h;split<;>simp[h]
theorem G3 {x y:Rat}:0<BS x y↔y<x:=by
 unfold BS
 split
 · rename_i h
   have:=Rat.not_lt.2 (Rat.le_of_lt h)
   simp[this]
 · rename_i h;split<;>simp[*]
theorem k9 {x:Rat} (h:0≤x):¬x.num<0:=by have:=Rat.num_nonneg.2 h;omega
theorem ri {x:Rat} {L:List Bool} {p p':Nat} {d d' r1:Bool} {r2:Int} (hs:RS 100000 x) (h1:¬x<0) (h2:¬((1099511627776:Int):Rat)<x)
 (hch:aA Tryz.prog 189 [.ref 0 0 0 0,NV (x-((x.floor:Int):Rat)).num.natAbs,NV (x-((x.floor:Int):Rat)).den] [some (bt L p d)] (.tup [.lit (.bool r1),.lit (.int .i64 r2)]) [some (bt L p' d')]):
 aA Tryz.prog 134 [.ref 0 0 0 0,RV x] [some (bt L p d)]
 (.tup [.lit (.int .i64 (if r2=0 then((x.num.natAbs/x.den+(if r1 then 1 else 0):Nat):Int) else 0)),.lit (.int .i64 r2)]) [some (bt L p' d')]:=by
 have h0:=JK (n:=0) zd zd;have hM:=JK (n:=1099511627776) zd zd;have s0:RS 400000 ((0:Int):Rat):=sF (ajD (di zd) zd) zd;have sM:RS 400000 ((1099511627776:Int):Rat):=sF (ajD (di zd) zd) zd;have c0:=B7 (hs.mono zd) s0;have cM:=B7 (hs.mono zd) sM;have e0:=IV (x:=x) (y:=((0:Int):Rat));have eM:=G3 (x:=x) (y:=((1099511627776:Int):Rat))
 have hfl:x.floor≤1099511627776:=by
  have:=Rat.floor_monotone (Rat.not_lt.1 h2)
  rwa [Rat.floor_intCast] at this
 rw[show((0:Int):Rat)=0 from rfl] at h0 s0 c0 e0;rw[Nb] at h0 c0;have hd:=ajn (fun e=>h1 (e0.1 e));have hd2:=ajn (fun e=>h2 (eM.1 e));generalize ((1099511627776:Int):Rat)=M at*
 have hn:¬x.num<0:=k9 (Rat.not_lt.1 h1);have hfn:=Fm hn;have hre:=vF hn;have hf:=Fj (x:=x) (hs.mono zd);have hab:=jQ (z:=x.floor);have hfl2:x.floor.natAbs=x.num.natAbs/x.den:=by rw[hfn];rfl
 have hfl3:(wg (x.num.natAbs/x.den)).length≤1:=di zo;have hna:=Lo (n:=x.num.natAbs/x.den) zo;rw[←hfn] at hna;have hsf:RS 1 ((x.floor:Int):Rat):=sF (by rw[hfl2];exact hfl3) zd;have hsb:=L5 (hs.mono (show 100000≤400000 by decide)) (hsf.mono (show 1≤400000 by decide));have hrs:=Ii hs hsf;have hch:=AD (x:=x-((x.floor:Int):Rat)) (by rw[hre];exact uI x.den_nz) (hrs.mono zd) hch;have hin:=KY (n:=x.num.natAbs/x.den) (M:=1099511627776) (m:=1099511627776) zo zo zo;rw[show min (x.num.natAbs/x.den) 1099511627776=x.num.natAbs/x.den by omega] at hin;rw[hfl2] at hab;generalize x-((x.floor:Int):Rat)=y at*
 have hfi:x.num.natAbs/x.den≤1099511627776:=by omega
 generalize x.num.natAbs/x.den=fl at*
 refine zF G1 Tryz.call134 Tryz.func134 [.tmp 4,.tmp 5] fun Q hQ=>?_;refine ae ?_;refine zC h0 ?_;refine aB (c0) rfl rfl ?_;refine br hd ?_;refine zC hM ?_;refine aB (cM) rfl rfl ?_;refine br hd2 ?_;refine zC hf ?_;refine zC hab ?_;refine zC hna ?_;refine zC hsb ?_;refine aF [some 0] [] (hch) ?_
 by_cases hr:r2=0
 · rw[if_pos hr] at hQ
   subst hr
   cases r1
   · refine ae ?_
     refine zC hin ?_;exact ak [some 0] hQ
   · refine ae ?_
     refine zC hin ?_;exact ak [some 0] hQ
 · rw[if_neg hr] at hQ
   exact zE [some 0] hQ
theorem GB {x:Rat} {L:List Bool} {p:Nat} (hn:¬x.num<0):fm L (x-((x.floor:Int):Rat)).num.natAbs (x-((x.floor:Int):Rat)).den p=fm L (x.num.natAbs%x.den) x.den p:=by
 rw[vF hn,L6 x.den_nz]
theorem Cl {x:Rat} (hs:RS 100000 x):RS 200002 (x-((x.floor:Int):Rat)):=by
 have hf:RS 100001 ((x.floor:Int):Rat):=sF (by
  rw[Rat.floor_def];have h1:=Int.natAbs_ediv_le_natAbs x.num (x.den:Int);exact ajD (df h1) (by have:=hs.1;omega)) zd
 exact(Ii hs hf).mono zd
theorem E3 {x:Rat} {L:List Bool} {p:Nat} (hL:L.length≤1048576) (hp:p≤L.length) (hs:RS 100000 x) (h1:¬x<0) (h2:¬((1099511627776:Int):Rat)<x):aA Tryz.prog 134 [.ref 0 0 0 0,RV x] [some (bt L p false)]
 (.tup [.lit (.int .i64 (oz L x.num.natAbs x.den p).1),.lit (.int .i64 (oz L x.num.natAbs x.den p).2.1)]) [some (bt L (oz L x.num.natAbs x.den p).2.2.1 (oz L x.num.natAbs x.den p).2.2.2)]:=by
 have hrs:=Cl hs;have hr:=xq (L:=L) (P:=(x-((x.floor:Int):Rat)).num.natAbs) (D:=(x-((x.floor:Int):Rat)).den) (p:=p) hL hp (ajD hrs.1 zd) (ajD hrs.2 zd);rw[GB (k9 (Rat.not_lt.1 h1))] at hr;exact ri hs h1 h2 hr
def WD (p:Nat) (r:Bool×Int×Nat×Bool):V:=.agg [.lit (.bool r.1),.lit (.int .i64 ((r.2.2.1:Int)-(p:Int))),.lit (.int .i64 r.2.1)]
attribute [go_sem] WD
def okR (L:List Bool) (p:Nat) (r:Bool×Int×Nat×Bool):Prop:=r=(false,8,L.length,true)∨∃b e q,r=(b,e,q,false)∧e≠8∧p≤q∧q≤L.length
open Go.Eng
theorem Lm:∀l:List Bool,l.take (zl l)=List.replicate (zl l) false
 | []=>rfl
 | true::l=>rfl
 | false::l=>by
   show(false::l).take (zl l+1)=List.replicate (zl l+1) false
   rw[List.take_succ_cons,Lm l,akF]
end Go.Proofs.YtcnlmelpnflhnaaGreat
