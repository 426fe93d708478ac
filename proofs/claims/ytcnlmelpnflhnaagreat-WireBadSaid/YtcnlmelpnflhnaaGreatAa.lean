import Derived.Test.YtcnlmelpnflhnaaGreatOb
import Derived.Test.YtcnlmelpnflhnaaGreatE6
import Derived.Test.YtcnlmelpnflhnaaGreatE8
import Derived.Test.YtcnlmelpnflhnaaGreatE7
import Derived.Test.YtcnlmelpnflhnaaGreatFb
import Derived.Test.YtcnlmelpnflhnaaGreatNi
namespace Go.Proofs.YtcnlmelpnflhnaaGreat
open Go.Eng Go.Vx
set_option linter.unusedSimpArgs false
set_option linter.unusedVariables false
set_option maxRecDepth 100000
def cI (o n w:Nat):Ob:=.cells [.sl o 1 0 (bq n w),.I n,.I w]
def cx (n w X:Nat):Ob:=.row 1 ((words (bq n w) X).map (ie .u64))
attribute [go_sem] cI cx
theorem Ss {n w:Nat} (hn:n≤256) (hw:1≤w∧w≤32):aA Tryz.prog 143 [.I n,.I w] [] (.tup [.ref 0 0 0 0,.I 0]) [some (cI 1 n w),some (cx n w 0)]:=by
 refine zF pl Tryz.call143 Tryz.func143 [.tmp 4,.tmp 5] fun Q hQ=>?_;have hp:n*w≤256*32:=akH hn hw.2;have hc:(n:Int)*(w:Int)=((n*w:Nat):Int):=by simp
 have hd:(((n*w:Nat):Int)+64-1)/64=(bq n w:Int):=by unfold bq;omega
 have hd2:bq n w≤129:=by unfold bq;omega
 have hwz:=Bp (bq n w)
 simp(maxSteps:=1000000) (disch:=(first | omega | (simp only[cS,aki,akj,true_and,and_true];(try omega);done) | fail)) only[go_sem,hc,hd,Int.reduceEq,Int.reduceToNat,Nat.reduceAdd,Nat.reduceMul,Nat.reduceEqDiff, ↓reduceIte]
 rw[←hwz];exact ai [some 1,some 0] hQ
theorem D5 {w:Nat} (hw:1≤w∧w≤32):2≤2^w∧2^w≤4294967296:=by
 have h1:2^1≤2^w:=ako zd hw.1;have h2:2^w≤2^32:=ako zd hw.2;omega
def jQ (n w:Nat) (L:List Int):V:=.rref 3 [[.row 1 (L.map (ie .u64)),.I n,.I w]] 0 0
attribute [go_sem] jQ
theorem lS {n w:Nat} {L:List Int} (hw:1≤w∧w≤32):aA Tryz.prog 148 [jQ n w L] [] (.lit (.int .u64 ((2^w-1:Nat):Int))) []:=by
 refine zF pl Tryz.call148 Tryz.func148 [.tmp 2] fun Q hQ=>?_;have hp:=D5 hw;have hs:=Dj (k:=w) zo;have hc:((2^w:Nat):Int)-1=((2^w-1:Nat):Int):=by omega
 have hww:IntKind.u64.wrap ((2^w-1:Nat):Int)=((2^w-1:Nat):Int):=by
  generalize 2^w-1=y at*
  exact E4
 simp(maxSteps:=1000000) (disch:=(first | omega | (simp only[cS,aki,akj,true_and,and_true];(try omega);done) | fail)) only[go_sem,hs,hc,hww,Int.reduceEq,Int.reduceToNat,Nat.reduceAdd,Nat.reduceMul,Nat.reduceEqDiff, ↓reduceIte]
 exact ai [] hQ
theorem zg {n w i:Nat} {L:List Int} (hn:n≤256) (hw:1≤w∧w≤32) (hi:i≤256):aA Tryz.prog 147 [jQ n w L,.I i] [] (.tup [.I (i*w/64:Nat),.I (i*w%64:Nat)]) []:=by
 refine zF OY Tryz.call147 Tryz.func147 [.tmp 4,.tmp 5] fun Q hQ=>?_;have hp:i*w≤256*32:=akH hi hw.2;have hc:(i:Int)*(w:Int)=((i*w:Nat):Int):=by simp
 simp(maxSteps:=1000000) (disch:=(first | omega | (simp only[cS,aki,akj,true_and,and_true];(try omega);done) | fail)) only[go_sem,hc,Int.reduceEq,Int.reduceToNat,Nat.reduceAdd,Nat.reduceMul,Nat.reduceEqDiff, ↓reduceIte]
 exact ai [] hQ
theorem QW {n w X i:Nat} (hn:n≤256) (hw:1≤w∧w≤32) (hi:i<n):aA Tryz.prog 98 [jQ n w (words (bq n w) X),.I i] [] (.tup [.lit (.int .u64 (X/2^(i*w)%2^w:Nat)),.I 0]) []:=by
 refine zF pl Tryz.call98 Tryz.func98 [.tmp 4,.tmp 5] fun Q hQ=>?_;refine ae ?_;refine ch (zg (n:=n) (w:=w) (L:=words (bq n w) X) (i:=i) hn hw zo) ?_;have hlw:=aB (bq n w) X;have hm:i*w+w≤n*w:=Dv hi;have hk:i*w/64<bq n w:=by unfold bq;omega
 have hg:=afa X (i*w/64) (i*w%64) w (akD _ zd) hw.2;rw[akO] at hg;have hg0:=ep (X:=X) hk;have hl0:=lO X (i*w/64);have hl1:=lO X (i*w/64+1);generalize hkk:i*w/64=k at*
 generalize hbb:i*w%64=b at*
 have hb64:b<64:=by omega
 have hnw:n*w≤256*32:=akH hn hw.2;have hkb:k≤200:=by unfold bq at hk;omega
 have hpw:=D5 hw;have hdv:=hH (cj X k) b;have hd64:=ou (k:=b) hl0
 by_cases hbw:64<b+w
 · rw[if_pos hbw] at hg
   have hk1:k+1<bq n w:=by unfold bq;omega
   have hg1:=ep (X:=X) hk1;have hk2:((k:Int)+1).toNat=k+1:=by omega
   have hb2:((64:Int)-(b:Int)).toNat=64-b:=by omega
   simp(maxSteps:=1000000) (disch:=(first | omega | (simp only[cS,aki,akj,true_and,and_true];(try omega);done) | fail)) only[go_sem,hg0,hg1,hk2,hdv,hb2,wrap_mul,iK hd64 (kJ (cj X (k+1)*2^(64-b))),Int.reduceEq,Int.reduceToNat,Nat.reduceAdd,Nat.reduceMul,Nat.reduceEqDiff, ↓reduceIte]
   refine ch (lS (n:=n) (w:=w) (L:=words (bq n w) X) hw) ?_
   simp(maxSteps:=1000000) (disch:=(first | omega | (simp only[cS,aki,akj,true_and,and_true];(try omega);done) | fail)) only[go_sem,hg0,yg (Oq hd64 (kJ (cj X (k+1)*2^(64-b)))) hpw.2,hg,Int.reduceEq,Int.reduceToNat,Nat.reduceAdd,Nat.reduceMul,Nat.reduceEqDiff, ↓reduceIte]
   exact ai [] hQ
 · rw[if_neg hbw,Nat.or_zero] at hg
   refine eo hg0 hdv ?_;refine ch (lS (n:=n) (w:=w) (L:=words (bq n w) X) hw) ?_
   simp(maxSteps:=1000000) (disch:=(first | omega | (simp only[cS,aki,akj,true_and,and_true];(try omega);done) | fail)) only[go_sem,hg0,yg hd64 hpw.2,hg,Int.reduceEq,Int.reduceToNat,Nat.reduceAdd,Nat.reduceMul,Nat.reduceEqDiff, ↓reduceIte]
   exact ai [] hQ
theorem wI {n w i:Nat} {N:List Nat} (hn:n≤256) (hw:1≤w∧w≤32) (hi:i<n) (hl:∀x∈N,x<2^w):aA Tryz.prog 98 [jQ n w (words (bq n w) (bj w N)),.I i] [] (.tup [.lit (.int .u64 (N.getD i 0:Nat)),.I 0]) []:=by
 rw[←py zo hl];exact QW hn hw hi
theorem RL {n w X Y i x:Nat} (hn:n≤256) (hw:1≤w∧w≤32) (hi:i<n) (hx:x<2^w) (hS:j6 X Y (i*w) w x):aA Tryz.prog 130 [.ref 0 0 0 0,.I i,.lit (.int .u64 x)] [some (cI 1 n w),some (cx n w X)] (.I 0) [some (cI 1 n w),some (cx n w Y)]:=by
 refine zF KJ Tryz.call130 Tryz.func130 [.tmp 6] fun Q hQ=>?_;have hlw:=aB (bq n w) X;refine ae ?_;refine ch (lS (n:=n) (w:=w) (L:=words (bq n w) X) hw) ?_;have hpw:=D5 hw;refine ae ?_;refine ch (zg (n:=n) (w:=w) (L:=words (bq n w) X) (i:=i) hn hw zo) ?_;have hlw:=aB (bq n w) X;have hm:i*w+w≤n*w:=Dv hi;have hk:i*w/64<bq n w:=by unfold bq;omega
 have hnw:n*w≤256*32:=akH hn hw.2;have hdm:=akO (i*w) 64;have hg0:=ep (X:=X) hk;have hl0:=lO X (i*w/64);have hl1:=lO X (i*w/64+1);rw[←hdm] at hS;generalize hkk:i*w/64=k at*
 generalize hbb:i*w%64=b at*
 have hb64:b<64:=by omega
 have hkb:k≤200:=by unfold bq at hk;omega
 have hw0:=aaB hS hb64 hx;have ha0:=Dx hl0 (kJ ((2^w-1)*2^b));have ho0:=iK (xX hl0 (kJ ((2^w-1)*2^b))) (kJ (x*2^b));rw[hw0] at ho0
 by_cases hbw:64<b+w
 · have hk1:k+1<bq n w:=by unfold bq;omega
   have hg1:=ep (X:=X) hk1;have hw1:=XQ hS hb64 hw.2 hbw hx;have hxl:x<18446744073709551616:=by omega
   have hml:2^w-1<18446744073709551616:=by omega
   have ha1:=Dx hl1 (ou (k:=64-b) hml);have ho1:=iK (xX hl1 (ou (k:=64-b) hml)) (ou (k:=64-b) hxl);rw[hw1] at ho1;have hk2:((k:Int)+1).toNat=k+1:=by omega
   have hb2:((64:Int)-(b:Int)).toNat=64-b:=by omega
   have hd1:=hH (2^w-1) (64-b);have hd2:=hH x (64-b);have hws:=AV hk1 hS hb64 hw.2;have hgs:((words (bq n w) X).set k (cj Y k:Int)).getD (k+1) 0=(cj X (k+1):Int):=by rw[getD_set_ne zo,hg1]
   refine eo hg0 @wrap_mul ?_;refine ch (lS (n:=n) (w:=w) (L:=words (bq n w) X) hw) ?_;refine aap hg0 @wrap_mul ha0 ho0 hk2 hgs hb2 ?_;refine ch (lS (n:=n) (w:=w) (L:=(words (bq n w) X).set k (cj Y k:Int)) hw) ?_;refine Sr hk2 hgs hb2 hd1 hd2 ha1 ho1 hws ?_;exact ai [some 0,some 1] hQ
 · have hws:=AS hk hS hb64 hw.2 hbw
   refine eo hg0 @wrap_mul ?_;refine ch (lS (n:=n) (w:=w) (L:=words (bq n w) X) hw) ?_;refine Oc hg0 @wrap_mul ha0 ho0 hws ?_;exact ai [some 0,some 1] hQ
theorem L3 {n w i x:Nat} {N:List Nat} (hn:n≤256) (hw:1≤w∧w≤32) (hi:i<n) (hx:x<2^w) (hN:N.length=n) (hl:∀x∈N,x<2^w):aA Tryz.prog 130 [.ref 0 0 0 0,.I i,.lit (.int .u64 x)] [some (cI 1 n w),some (cx n w (bj w N))] (.I 0) [some (cI 1 n w),some (cx n w (bj w (N.set i x)))]:=
 RL hn hw hi hx (E3 zo zo hl hx)
theorem Om {n w:Nat} {L:List Int}:aA Tryz.prog 92 [jQ n w L] [] (.I n) []:=by
 refine zF pl Tryz.call92 Tryz.func92 [.tmp 2] fun Q hQ=>?_;exact zE [] hQ
theorem yX {n w:Nat} {L:List Int}:aA Tryz.prog 129 [jQ n w L] [] (.I w) []:=by
 refine zF pl Tryz.call129 Tryz.func129 [.tmp 2] fun Q hQ=>?_;exact zE [] hQ
theorem FC {A B:List Int} (hA:A.length≤1099511627776) (hB:B.length≤1099511627776):aA Tryz.prog 153 [.row 1 (A.map (ie .u64)),.row 1 (B.map (ie .u64))] [] (.lit (.bool (decide (A=B)))) []:=by
 refine zF OZ Tryz.call153 Tryz.func153 [.tmp 4] fun Q hQ=>?_
 by_cases hl:A.length=B.length
 · refine ae ?_
   refine aU (X:=Nat) (st:=fun i=>([(0,.row 1 (A.map (ie .u64))),(1,.row 1 (B.map (ie .u64))),(12,.I A.length),(13,.I i)],[]))
    (inv:=fun i=>i≤A.length∧A.take i=B.take i) (m:=fun i=>A.length-i) 0 [] ⟨by omega,by simp⟩ ?_
   rintro i ⟨hi,ht⟩
   by_cases h:i<A.length
   · have hs:=rY h (show i<B.length by omega)
     by_cases he:A.getD i 0=B.getD i 0
     · refine ae ?_
       refine aR (i+1) [] ⟨by omega,hs.2 ⟨ht,he⟩⟩ zo
     · refine ae ?_
       rw[akg (fun e=>he (by rw[e]))] at hQ;exact ai [] hQ
   · obtain rfl:i=A.length:=by omega
     rw[akw,hl,akw] at ht;rw[aks ht] at hQ;exact zE [] hQ
 · rw[akg (fun e=>hl (by rw[e]))] at hQ
   exact zE [] hQ
theorem xw {n w X Y:Nat} (hn:n≤256) (hw:1≤w∧w≤32):aA Tryz.prog 115 [jQ n w (words (bq n w) X),jQ n w (words (bq n w) Y)] [] (.lit (.bool (decide (words (bq n w) X=words (bq n w) Y)))) []:=by
 refine zF Dk Tryz.call115 Tryz.func115 [.tmp 4] fun Q hQ=>?_;have hnw:n*w≤256*32:=akH hn hw.2;have hk:bq n w≤200:=by unfold bq;omega
 refine ae ?_;refine ch (FC (A:=words (bq n w) X) (B:=words (bq n w) Y) (by rw[aB];omega) (by rw[aB];omega)) ?_;exact zE [] hQ
theorem FZ {A:List Int} (hA:A.length≤1000000):aA Tryz.prog 136 [.row 1 (A.map (ie .u64))] [] (.sl 0 1 0 A.length) [some (.row 1 (A.map (ie .u64)))]:=by
 refine zF pl Tryz.call136 Tryz.func136 [.tmp 2] fun Q hQ=>?_
 by_cases h:A=[]
 · subst h
   refine Ya ?_;refine jC ?_ ?_
   · refine ae ?_
     exact ai [none] hQ
   · refine ae ?_
     exact ai [some 1] hQ
 · have he:(A.map (ie .u64)).isEmpty=false:=by simp[h]
   have hpos:0<A.length:=by cases A with | nil=>exact absurd rfl h | cons _ _=>simp
   refine bg he ?_;exact ai [some 1] hQ
theorem Et {n w X:Nat} (hn:n≤256) (hw:1≤w∧w≤32):aA Tryz.prog 111 [jQ n w (words (bq n w) X)] [] (.ref 0 0 0 0) [some (cI 1 n w),some (cx n w X)]:=by
 refine zF Qu Tryz.call111 Tryz.func111 [.tmp 2] fun Q hQ=>?_;have hnw:n*w≤256*32:=akH hn hw.2;have hk:bq n w≤200:=by unfold bq;omega
 have hlw:=aB (bq n w) X;refine ae ?_;refine dk (FZ (A:=words (bq n w) X) zo) ?_;exact zE [some 1,some 0] hQ
theorem xp {B:List Int} {p:Nat} (hI:gQ B) (hB:B.length≤1099511627776) (hp:p≤8*B.length):aA Tryz.prog 151 [.ref 0 0 0 0] [some (bU B p)]
 (.tup [.lit (.int .u64 ((gX (bitsOf B) p).1:Int)),.I (gX (bitsOf B) p).2.2]) [some (bU B (gX (bitsOf B) p).2.1)]:=by
 refine zF pl Tryz.call151 Tryz.func151 [.tmp 2,.tmp 3] fun Q hQ=>?_;refine ae ?_;have hbl:=aG B
 refine aU (X:=Nat) (st:=fun k=>([(0,.ref 0 0 0 0),(9,.I k)],[some (bU B (p+k))]))
  (inv:=fun k=>k≤64∧k≤zr (bitsOf B) p∧p+k≤8*B.length) (m:=fun k=>64-k) 0 [some 0] ⟨by omega,by omega,by omega⟩ ?_
 rintro k ⟨hk,hz,hpk⟩
 by_cases hk64:k<64
 · refine ae ?_
   refine aF [some 0] [] (rk (B:=B) (p:=p+k) hI hB hpk) ?_
   by_cases hin:p+k<(bitsOf B).length
   · rw[As hin]
     cases hb:(bitsOf B).getD (p+k) false with
     | true=>
       have hzk:=Mm hin hz hb;refine ahM ?_;refine aF [some 0] [] (rW (B:=B) (p:=p+k+1) (w:=k) hI hB zo) ?_
       by_cases he:p+k+1+k≤(bitsOf B).length
       · rw[IJ zo he]
         rw[(Jj hzk hk64 zo).1] at hQ;have hnl:=dw (((bitsOf B).drop (p+k+1)).take k);have hln:(((bitsOf B).drop (p+k+1)).take k).length=k:=by simp;omega
         rw[hln] at hnl
         simp(maxSteps:=1000000) (disch:=(first | omega | (simp only[cS,aki,akj,true_and,and_true];(try omega);done) | fail)) only[go_sem,Dj hk64,Sd hk64 hnl,Int.reduceEq,Int.reduceToNat,Nat.reduceAdd,Nat.reduceMul,Nat.reduceEqDiff, ↓reduceIte]
         exact ai [some 0] hQ
       · rw[Ae zo he]
         rw[(Bc hzk hk64 zo).1,if_pos hin] at hQ;exact zE [some 0] hQ
     | false=>
       have hzk:=Hu hin hz hb;refine agL ?_;refine aR (k+1) [some 0] ⟨by omega,by omega,by omega⟩ zo
   · rw[BB hin]
     have hzk:=RJ hin hz zo;rw[(Bc hzk hk64 zo).1,if_neg hin] at hQ;exact zE [some 0] hQ
 · obtain rfl:k=64:=by omega
   rw[(CG zo).1] at hQ;exact zE [some 0] hQ
theorem JY {B:List Int} {p:Nat} (hI:gQ B) (hB:B.length≤1099511627776) (hp:p≤8*B.length):aA Tryz.prog 152 [.ref 0 0 0 0] [some (bU B p)]
 (.tup [.lit (.int .u64 ((vX (bitsOf B) p).1:Int)),.I (vX (bitsOf B) p).2.2]) [some (bU B (vX (bitsOf B) p).2.1)]:=by
 refine zF pl Tryz.call152 Tryz.func152 [.tmp 2,.tmp 3] fun Q hQ=>?_;refine ae ?_;have hbl:=aG B
 refine aU (X:=Nat×Nat×Nat) (st:=fun x=>([(0,.ref 0 0 0 0),(4,.lit (.int .u64 x.2.2)),(9,.I x.1)],[some (bU B x.2.1)]))
  (inv:=fun x=>x.1≤10∧x.2.1≤8*B.length∧x.2.2<2^(7*x.1)∧vX (bitsOf B) p=sX (bitsOf B) (10-x.1) x.1 x.2.1 x.2.2) (m:=fun x=>10-x.1) (0,p,0) [some 0] ⟨by simp,hp,by simp,rfl⟩ ?_
 rintro ⟨i,q,a⟩ ⟨hi,hq,ha,hv⟩;simp only at hi hq ha hv;rw[hv] at hQ
 by_cases h10:i<10
 · obtain ⟨j,hj⟩:∃j,10-i=j+1:=⟨9-i,by omega⟩
   rw[hj] at hQ;refine ae ?_;refine aF [some 0] [] (rW (B:=B) (p:=q) (w:=8) hI hB hq) ?_
   by_cases hr:q+8≤(bitsOf B).length
   · rw[QN hr]
     obtain ⟨x,hx⟩:∃x,numOf (((bitsOf B).drop q).take 8)=x:=⟨_,rfl⟩;have hx8:=dw (((bitsOf B).drop q).take 8);have hln:(((bitsOf B).drop q).take 8).length=8:=by simp;omega
     rw[hln,hx] at hx8;rw[rf hr hx] at hQ;rw[hx];have hc:(x:Int)%128=((x%128:Nat):Int):=by omega
     have e7:(7*(i:Int)).toNat=7*i:=by omega
     have hxm:x%128<128:=akD _ zd
     by_cases hbad:(i=9∧1<x%128)∨(0<i∧x=0)
     · rw[if_pos hbad] at hQ
       by_cases h9:i=9
       · by_cases h8:1<x%128
         · simp(maxSteps:=1000000) (disch:=(first | omega | (simp only[cS,aki,akj,true_and,and_true];(try omega);done) | fail)) only[go_sem,hc,Int.reduceEq,Int.reduceToNat,Nat.reduceAdd,Nat.reduceMul,Nat.reduceEqDiff, ↓reduceIte]
           exact ai [some 0] hQ
         · simp(maxSteps:=1000000) (disch:=(first | omega | (simp only[cS,aki,akj,true_and,and_true];(try omega);done) | fail)) only[go_sem,hc,Int.reduceEq,Int.reduceToNat,Nat.reduceAdd,Nat.reduceMul,Nat.reduceEqDiff, ↓reduceIte]
           exact ai [some 0] hQ
       · simp(maxSteps:=1000000) (disch:=(first | omega | (simp only[cS,aki,akj,true_and,and_true];(try omega);done) | fail)) only[go_sem,hc,Int.reduceEq,Int.reduceToNat,Nat.reduceAdd,Nat.reduceMul,Nat.reduceEqDiff, ↓reduceIte]
         exact ai [some 0] hQ
     · rw[if_neg hbad] at hQ
       have h91:i=9→x%128≤1:=fun h=>by
        have:¬1<x%128:=fun h'=>hbad (.inl ⟨h,h'⟩)
        omega
       have h0:¬(0<i∧x=0):=fun h=>hbad (.inr h);have hw:=IK (x:=x%128) (i:=i) zo h91 hxm;have ho:=R8 (x:=x%128) ha zo h91 hxm;have hs:=Rf (x:=x%128) (i:=i) zo h91 hxm;have hp7:=px i;have hmul:x%128*2^(7*i)≤127*2^(7*i):=akI _ zo
       by_cases hx128:x<128
       case' pos=>rw[if_pos hx128] at hQ
       case' neg=>rw[if_neg hx128] at hQ
       all_goals
        by_cases h9:i=9
        case' pos=>simp(maxSteps:=1000000) (disch:=(first | omega | (simp only[cS,aki,akj,true_and,and_true];(try omega);done) | fail)) only[go_sem,hc,Int.reduceEq,Int.reduceToNat,Nat.reduceAdd,Nat.reduceMul,Nat.reduceEqDiff, ↓reduceIte]
        case' neg=>simp(maxSteps:=1000000) (disch:=(first | omega | (simp only[cS,aki,akj,true_and,and_true];(try omega);done) | fail)) only[go_sem,hc,Int.reduceEq,Int.reduceToNat,Nat.reduceAdd,Nat.reduceMul,Nat.reduceEqDiff, ↓reduceIte]
       all_goals
        by_cases hi0:i=0
        case' pos=>simp(maxSteps:=1000000) (disch:=(first | omega | (simp only[cS,aki,akj,true_and,and_true];(try omega);done) | fail)) only[go_sem,hc,e7,hw,ho,Int.reduceEq,Int.reduceToNat,Nat.reduceAdd,Nat.reduceMul,Nat.reduceEqDiff, ↓reduceIte]
        case' neg=>simp(maxSteps:=1000000) (disch:=(first | omega | (simp only[cS,aki,akj,true_and,and_true];(try omega);done) | fail)) only[go_sem,hc,e7,hw,ho,Int.reduceEq,Int.reduceToNat,Nat.reduceAdd,Nat.reduceMul,Nat.reduceEqDiff, ↓reduceIte]
       all_goals
        first
        | omega
        | (exact ai [some 0] hQ)
        | (refine aR (i+1,q+8,a+x%128*2^(7*i)) [some 0] ⟨by simp only;omega,by simp only;omega,by simp only;omega,by rw[hv,hj,rf hr hx,if_neg hbad,if_neg hx128];simp only;rw[show 10-(i+1)=j by omega]⟩ (by simp only;omega))
   · rw[NZ hr]
     rw[DB hr] at hQ;exact zE [some 0] hQ
 · obtain rfl:i=10:=by omega
   rw[show sX (bitsOf B) (10-10) 10 q a=(0,q,4) from rfl] at hQ;exact zE [some 0] hQ
open Go.Eng
def dN:Nat→(Nat→Rat)→Rat
 | 0,_=>0
 | n+1,φ=>dN n φ+φ n
theorem fT {φ ψ:Nat→Rat}:∀{n:Nat},(∀x,x<n→φ x=ψ x)→dN n φ=dN n ψ
 | 0,_=>rfl
 | n+1,h=>by
   unfold dN;rw[fT (n:=n) (fun x hx=>h x zo),h n zo]
theorem sA (m:Nat) (φ:Nat→Rat):∀n,dN (m+n) φ=dN m φ+dN n (fun x=>φ (m+x))
 | 0=>by unfold dN;grind
 | n+1=>by
   have:=sA m φ n
   show dN (m+n) φ+φ (m+n)=dN m φ+(dN n (fun x=>φ (m+x))+φ (m+n));rw[this];grind
theorem CW (n:Nat):vn (n+1)=vn n+1:=by unfold vn;simp
theorem C9:vn 0=0:=rfl
theorem Jc {n:Nat} (h:0<n):vn n≠0:=by
 unfold vn;intro e
 have:(((n:Nat):Int):Rat)=((0:Int):Rat):=e
 rw[Rat.intCast_inj] at this;omega
theorem Ff (n:Nat):0≤vn n:=by
 have:((0:Int):Rat)≤(((n:Nat):Int):Rat):=Rat.intCast_le_intCast.2 zo
 exact this
theorem sC (c:Rat):∀n,dN n (fun _=>c)=c*vn n
 | 0=>by unfold dN;rw[C9];grind
 | n+1=>by
   unfold dN;rw[sC c n,CW];grind
theorem pQ {φ:Nat→Rat} {B:Rat}:∀{n:Nat},(∀x,x<n→0≤φ x∧φ x≤B)→0≤dN n φ∧dN n φ≤B*vn n
 | 0,_=>by unfold dN;rw[C9];constructor<;>grind
 | n+1,h=>by
   unfold dN;obtain ⟨a,b⟩:=pQ (n:=n) (fun x hx=>h x zo);obtain ⟨c,d⟩:=h n zo;rw[CW];constructor<;>grind
variable {α:Type}
def iu:Nat→Nat→(Nat→DT α)→DT α
 | 0,a,k=>k a
 | w+1,a,k=>.ask (iu w (2*a) k) (iu w (2*a+1) k)
def sw (n w:Nat):Nat→(Nat→DT Rat)→DT Rat
 | 0,k=>.ret (dN n (fun a=>(k a).mean id)/vn n)
 | f+1,k=>iu w 0 fun x=>if x<n then k x else sw n w f k
theorem mK {v:α→Rat} {k:Nat→DT α}:∀{w a:Nat},(iu w a k).mean v*vn (2^w)=dN (2^w) (fun x=>(k (a*2^w+x)).mean v)
 | 0,a=>by
   show(k a).mean v*vn 1=0+(k (a*1+0)).mean v
   rw[show vn 1=1 from rfl,al9,alv]
   grind
 | w+1,a=>by
   have h1:=mK (v:=v) (k:=k) (w:=w) (a:=2*a);have h2:=mK (v:=v) (k:=k) (w:=w) (a:=2*a+1);have e:2^(w+1)=2^w+2^w:=by rw[akM];omega
   show((iu w (2*a) k).mean v+(iu w (2*a+1) k).mean v)/2*vn (2^(w+1))=_
   rw[e,sA,wY]
   have e1:dN (2^w) (fun x=>(k (a*(2^w+2^w)+x)).mean v)=(iu w (2*a) k).mean v*vn (2^w):=by
    rw[h1];refine fT fun x _=>?_;rw[show a*(2^w+2^w)=2*a*2^w by rw[akU,akS,Nat.two_mul]]
   have e2:dN (2^w) (fun x=>(k (a*(2^w+2^w)+(2^w+x))).mean v)=(iu w (2*a+1) k).mean v*vn (2^w):=by
    rw[h2];refine fT fun x _=>?_;rw[show a*(2^w+2^w)+(2^w+x)=(2*a+1)*2^w+x by rw[akU,akA,akS,Nat.two_mul,alG];omega]
   rw[e1,e2]
   grind
theorem Ep {n w:Nat} (hn:0<n) (hw:n≤2^w) (k:Nat→DT Rat):∀f,(sw n w f k).mean id*vn n=dN n (fun a=>(k a).mean id)
 | 0=>by
   have:=Jc hn
   show dN n (fun a=>(k a).mean id)/vn n*vn n=_;generalize dN n (fun a=>(k a).mean id)=s
   grind
 | f+1=>by
   have ih:=Ep hn hw k f;have h:=mK (v:=id) (k:=fun x=>if x<n then k x else sw n w f k) (w:=w) (a:=0);have h0:0<2^w:=by omega
   obtain ⟨d,hd⟩:∃d,2^w=n+d:=⟨2^w-n,by omega⟩;have hne:=Jc h0
   show(iu w 0 (fun x=>if x<n then k x else sw n w f k)).mean id*vn n=_
   rw[hd,sA] at h;rw[hd] at hne
   have e1:dN n (fun x=>(if 0*(n+d)+x<n then k (0*(n+d)+x) else sw n w f k).mean id)=dN n (fun a=>(k a).mean id):=by
    refine fT fun x hx=>?_;rw[alF,akP,if_pos hx]
   have e2:dN d (fun x=>(if 0*(n+d)+(n+x)<n then k (0*(n+d)+(n+x)) else sw n w f k).mean id)=(sw n w f k).mean id*vn d:=by
    rw[←sC];refine fT fun x hx=>?_;rw[if_neg zo]
   rw[e1,e2] at h;generalize (iu w 0 (fun x=>if x<n then k x else sw n w f k)).mean id=M at*
   generalize (sw n w f k).mean id=M' at*
   generalize dN n (fun a=>(k a).mean id)=S at*
   rw[wY] at h hne;generalize vn n=a at*
   generalize vn d=b at*
   have h3:M*a*(a+b)=S*(a+b):=by grind
   grind
theorem oW {P:α→Prop} {k:Nat→DT α} (h:∀x,(k x).all P):∀{w a:Nat},(iu w a k).all P
 | 0,a=>h a
 | w+1,a=>⟨oW h,oW h⟩
def inB (B v:Rat):Prop:=0≤v∧v≤B
theorem vH {B:Rat}:∀{t:DT Rat},t.all (inB B)→inB B (t.mean id)
 | .ret a,h=>h
 | .ask f g,h=>by
   obtain ⟨a,b⟩:=vH h.1;obtain ⟨c,d⟩:=vH h.2;show 0≤(f.mean id+g.mean id)/2∧(f.mean id+g.mean id)/2≤B;constructor<;>grind
theorem K9 {n w:Nat} {B:Rat} (hn:0<n) {k:Nat→DT Rat} (h:∀x,(k x).all (inB B)):∀{f:Nat},(sw n w f k).all (inB B)
 | 0=>by
   obtain ⟨a,b⟩:=pQ (n:=n) (fun x _=>vH (h x))
   have hp:0<vn n:=by
    have:=Ff n
    have:=Jc hn
    grind
   show 0≤dN n (fun a=>(k a).mean id)/vn n∧dN n (fun a=>(k a).mean id)/vn n≤B;generalize dN n (fun a=>(k a).mean id)=s at*
   refine⟨?_,?_⟩
   · rw[Rat.div_def]
     exact Rat.mul_nonneg a (Rat.le_of_lt (Rat.inv_pos.2 hp))
   · have hv:(vn n)⁻¹*vn n=1:=Rat.inv_mul_cancel _ (Rat.ne_of_gt hp)
     have hi:0<(vn n)⁻¹:=Rat.inv_pos.2 hp;have h3:=Rat.mul_le_mul_of_nonneg_right b (Rat.le_of_lt hi);rw[Rat.div_def];rw[Rat.mul_assoc,Rat.mul_comm (vn n),hv,Rat.mul_one] at h3;exact h3
 | f+1=>oW fun x=>by
   split
   · exact h x
   · exact K9 hn h
def P1 (k a:Nat) (s:Nat×Nat):Nat×Nat:=if a=0 then(k,1) else if s.1=k then(s.1,s.2+1) else s
def Zb (fin:Nat×Nat→Rat):List Nat→Nat→Nat×Nat→DT Rat
 | [],_,s=>.ret (fin s)
 | k::ks,N,s=>sw (N+1) (bl N) 40 fun a=>Zb fin ks (N+1) (P1 k a s)
def ahQ (X:List (Nat×Nat)) (φ:Nat×Nat→Rat):Rat:=(X.map φ).sum
def af4 (k:Nat) (s:Nat×Nat):Nat×Nat:=if s.1=k then(s.1,s.2+1) else s
def ahA:List (Nat×Nat)→List Nat→List (Nat×Nat)
 | X,[]=>X
 | X,k::ks=>ahA ((k,1)::X.map (af4 k)) ks
def ajQ (ks:List Nat) (κ:Nat):Nat:=ks.count κ
theorem HB {φ:Nat→Rat} {k:Nat} {c:Rat}:∀{m:Nat},k<m→dN m (fun x=>if x=k then φ x+c else φ x)=dN m φ+c
 | 0,h=>by omega
 | m+1,h=>by
   unfold dN
   by_cases hm:k=m
   · subst hm
     have e:=fT (n:=k) (φ:=fun x=>if x=k then φ x+c else φ x) (ψ:=φ) (fun x hx=>if_neg zo);simp only[if_true];rw[e]
     grind
   · have hm2:¬m=k:=fun e=>hm e.symm
     simp only[if_neg hm2];rw[HB zo]
     grind
def aj1 (m:Nat) (X:List (Nat×Nat)) (c:Nat→Nat):Prop:=∀ψ:Nat→Nat→Rat,ahQ X (fun s=>ψ s.1 s.2)=dN m (fun κ=>dN (c κ) (fun r=>ψ κ (r+1)))
def PN:DT Rat→Nat→Rat
 | .ret a,f=>a*vn (2^f)
 | .ask _ _,0=>0
 | .ask g h,f+1=>PN g f+PN h f
def Yb:DT Rat→Nat→Nat
 | .ret _,_=>0
 | .ask _ _,0=>1
 | .ask g h,f+1=>Yb g f+Yb h f
end Go.Proofs.YtcnlmelpnflhnaaGreat
