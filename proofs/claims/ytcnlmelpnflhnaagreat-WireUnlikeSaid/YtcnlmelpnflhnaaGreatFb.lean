import Derived.Test.YtcnlmelpnflhnaaGreatPk
import Derived.Test.YtcnlmelpnflhnaaGreatE6
import Derived.Test.YtcnlmelpnflhnaaGreatD1
import Derived.Test.YtcnlmelpnflhnaaGreatE7
import Derived.Test.YtcnlmelpnflhnaaGreatE8
import Derived.Test.YtcnlmelpnflhnaaGreatZ1
import Derived.Test.YtcnlmelpnflhnaaGreatD3
import Derived.Test.YtcnlmelpnflhnaaGreatFa
namespace Go.Proofs.YtcnlmelpnflhnaaGreat
open Go.Eng Go.Vx
set_option linter.unusedSimpArgs false
set_option linter.unusedVariables false
set_option maxRecDepth 100000
def dg (n:Nat):List Nat:=lX 10000 n
def DV (n:Nat):V:=.row 1 ((nl (dg n)).map (ie .i64))
attribute [go_sem] DV
def wv (W:List Nat):Nat:=aD 18446744073709551616 W
open Go.Eng
def TF (K:Nat) (s:Nat×Nat):Nat×Nat:=if 2*K≤s.1*s.1/K then(s.1*s.1/K/2,2*s.2+1) else(s.1*s.1/K,2*s.2)
def P1 (K:Nat) (s:Nat×Nat):Nat→Nat×Nat
 | 0=>s
 | j+1=>TF K (P1 K s j)
theorem Qu {K:Nat} {s:Nat×Nat} (hK:0<K) (h:K≤s.1∧s.1<2*K):K≤(TF K s).1∧(TF K s).1<2*K∧(TF K s).2≤2*s.2+1:=by
 have h1:K*K≤s.1*s.1:=ajO h.1 h.1
 have h2:s.1*s.1<4*K*K:=by
  have:=Nat.mul_lt_mul'' h.2 h.2
  have e:2*K*(2*K)=4*K*K:=by rw[Nat.mul_mul_mul_comm,ajZ 4]
  omega
 have h3:K≤s.1*s.1/K:=(akL hK).2 h1;have h4:s.1*s.1/K<4*K:=(ajX hK).2 h2;unfold TF
 split
 · simp only;omega
 · simp only;omega
theorem PI {K x o:Nat} (hK:0<K) (h:K≤x∧x<2*K):∀j,K≤(P1 K (x,o) j).1∧(P1 K (x,o) j).1<2*K∧(P1 K (x,o) j).2+1≤(o+1)*2^j
 | 0=>⟨h.1,h.2,by simp[P1]⟩
 | j+1=>by
   obtain ⟨a,b,c⟩:=PI hK h j (o:=o)
   have:=Qu hK ⟨a,b⟩
   refine⟨this.1,this.2.1,?_⟩;have h3:=this.2.2
   show(TF K (P1 K (x,o) j)).2+1≤_
   rw[ajS,←ajZ];omega
def K62:Nat:=4611686018427387904
def lgN (n:Nat):Nat:=(P1 K62 (n*2^(62-(bl n-1)),bl n-1) 28).2
def D28:Nat:=268435456
theorem Au {n:Nat} (hn:n<18446744073709551616):aA Tryz.prog 146 [.lit (.int .u64 n)] [] (.lit (.int .i64 (bl n:Int))) []:=by
 refine zF pl Tryz.call146 Tryz.func146 [.tmp 2] fun Q hQ=>?_;refine ae ?_;refine zC (kZ hn) ?_;exact ak [] hQ
theorem qk {A B:List Int} (hA:A.length≤1099511627776) (hB:B.length≤1099511627776):aA Tryz.prog 14 [.row 1 (A.map (ie .u8)),.row 1 (B.map (ie .u8))] [] (.lit (.bool (decide (A=B)))) []:=by
 refine zF X8 Tryz.call14 Tryz.func14 [.tmp 4] fun Q hQ=>?_
 by_cases hl:A.length=B.length
 · refine ae ?_
   refine aR (X:=Nat) (st:=fun i=>([(0,.row 1 (A.map (ie .u8))),(1,.row 1 (B.map (ie .u8))),(5,.lit (.int .i64 (i:Int)))],[]))
    (inv:=fun i=>i≤A.length∧A.take i=B.take i) (m:=fun i=>A.length-i) 0 [] ⟨ajH _,by simp⟩ ?_
   rintro i ⟨hi,hs⟩
   by_cases hil:i<A.length
   · by_cases hx:A.getD i 0=B.getD i 0
     · refine W7 hx ?_
       refine aM (i+1) [] ⟨by omega,?_⟩ zo;rw[la _ _ hil,la _ _ zo,hs]
       have:A.getD i default=B.getD i default:=hx
       rw[this]
     · refine ad5 hx ?_
       have:decide (A=B)=false:=ajn fun e=>hx (by rw[e])
       rw[this] at hQ;exact ak [] hQ
   · refine ae ?_
     obtain rfl:i=A.length:=by omega
     rw[ajy zo,ajy zo] at hs;rw[aju hs] at hQ;exact ak [] hQ
 · refine ae ?_
   have:decide (A=B)=false:=ajn fun e=>hl (by rw[e])
   rw[this] at hQ;exact ak [] hQ
@[go_sem] theorem afP:pk []=[]:=(rfl)
theorem nN {B:List Int} {p w:Nat} (hI:ke B) (hB:B.length≤1099511627776) (hw:w≤64) (hp:8*B.length<p+w) (hp2:p≤8*B.length):aA Tryz.prog 48 [.ref 0 0 0 0,.lit (.int .i64 (w:Int))] [some (dk B p)] (.tup [.lit (.int .u64 0),.lit (.int .i64 5)]) [some (dk B p)]:=by
 refine zF pl Tryz.call48 Tryz.func48 [.tmp 4,.tmp 5] fun Q hQ=>?_;refine ae ?_;refine aB (nL) rfl rfl ?_;rw[aju (show(0:Int)≤(w:Int)∧(w:Int)≤64 by omega)];refine zq9 ?_;refine zW [some 0] [] (nK (p:=p) hB zo) ?_;exact ak [some 0] hQ
theorem JG {B:List Int} {p:Nat} {w:Int} (hw:¬(0≤w∧w≤64)):aA Tryz.prog 48 [.ref 0 0 0 0,.lit (.int .i64 w)] [some (dk B p)] (.tup [.lit (.int .u64 0),.lit (.int .i64 2)]) [some (dk B p)]:=by
 refine zF pl Tryz.call48 Tryz.func48 [.tmp 4,.tmp 5] fun Q hQ=>?_;refine ae ?_;refine aB (nL) rfl rfl ?_;rw[ajn hw];exact zE [some 0] hQ
theorem rz {B:List Int} {p:Nat} {w:Int} (hI:ke B) (hB:B.length≤1099511627776) (hp:p≤8*B.length):aA Tryz.prog 48 [.ref 0 0 0 0,.lit (.int .i64 w)] [some (dk B p)]
 (.tup [.lit (.int .u64 ((rX (bitsOf B) p w).1:Int)),.lit (.int .i64 (rX (bitsOf B) p w).2.2)]) [some (dk B (rX (bitsOf B) p w).2.1)]:=by
 unfold rX;have hbl:=ba B
 by_cases hw:0≤w∧w≤64
 · obtain ⟨m,rfl⟩:=alX hw.1
   simp only[if_pos hw,aj6]
   by_cases h2:p+m≤(bitsOf B).length
   · simp only[if_pos h2]
     exact bN hI hB zo zo
   · simp only[if_neg h2]
     exact nN hI hB zo zo hp
 · simp only[if_neg hw]
   exact JG hw
theorem kP {B:List Int} {p:Nat} (hI:ke B) (hB:B.length≤1099511627776) (hp:p≤8*B.length):aA Tryz.prog 50 [.ref 0 0 0 0] [some (dk B p)] (.lit (.int .i64 (jR (bitsOf B) p))) [some (dk B p)]:=by
 refine zF pl Tryz.call50 Tryz.func50 [.tmp 2] fun Q hQ=>?_;have hbl:=ba B;unfold jR at hQ;refine ae ?_;refine aF [some 0] [] (nK (B:=B) (p:=p) hB hp) ?_
 by_cases h8:8≤(bitsOf B).length-p
 · rw[if_pos h8] at hQ
   exact zE [some 0] hQ
 · rw[if_neg h8] at hQ
   refine ae ?_
   refine aR (X:=Nat) (st:=fun i=>([(3,.ref 1 0 0 0)],[some (dk B p),some (dk B (p+i))]))
    (inv:=fun i=>p+i≤8*B.length∧(((bitsOf B).drop p).take i).any id=false) (m:=fun i=>8*B.length-p-i) 0 [some 0,some 1] ⟨by omega,by simp⟩ ?_
   rintro i ⟨hi,ha⟩;refine ae ?_;refine aF [some 1] [] (nK (B:=B) (p:=p+i) hB zo) ?_
   by_cases hil:p+i<8*B.length
   · refine ae ?_
     refine aF [some 1] [] (C8 (B:=B) (p:=p+i) hI hB hil) ?_
     cases hb:(bitsOf B).getD (p+i) false with
     | true=>
       rw[if_pos (Ay zo hb)] at hQ;refine ae9 hb ?_;exact ak [some 0] hQ
     | false=>
       refine afS hb ?_;refine aM (i+1) [some 0,some 1] ⟨by omega,IP zo hb ha⟩ zo
   · refine ae ?_
     rw[ajy (by simp;omega)] at ha;rw[if_neg (by rw[ha];simp)] at hQ;exact ak [some 0] hQ
theorem qK {B:List Int} {p:Nat} (hI:ke B) (hB:B.length≤1099511627776) (hp:p≤8*B.length):aA Tryz.prog 150 [.ref 0 0 0 0] [some (dk B p)]
 (.tup [.lit (.bool (decide ((rX (bitsOf B) p 1).1=1))),.lit (.int .i64 (rX (bitsOf B) p 1).2.2)]) [some (dk B (rX (bitsOf B) p 1).2.1)]:=by
 refine zF pl Tryz.call150 Tryz.func150 [.tmp 2,.tmp 3] fun Q hQ=>?_;refine ae ?_;refine zW [some 0] [] (rz (B:=B) (p:=p) (w:=1) hI hB hp) ?_;rw[show decide (((rX (bitsOf B) p 1).1:Int)=1)=decide ((rX (bitsOf B) p 1).1=1) by rw[decide_eq_decide];omega];exact ak [some 0] hQ
theorem Am {x y:Rat}:((x.num*(y.den:Int):Int):Rat)/((y.num*(x.den:Int):Int):Rat)=x/y:=by
 rw[←Rat.divInt_eq_div,Rat.div_def x y,Rat.inv_def]
 conv=>rhs;rw[←Rat.num_divInt_den x]
 rw[Rat.divInt_mul_divInt,Int.mul_comm y.num]
theorem AY {y:Rat} (h:y≠0):y.num≠0:=fun e=>h (Rat.num_eq_zero.1 e)
theorem QG {k l:Nat} {x y:Rat} (hk:1≤k+l) (hx:RS k x) (hy:RS l y):RS (k+l) (x/y):=by
 by_cases h:y=0
 · subst h
   have e:x/0=0:=by rw[Rat.div_def,Rat.inv_zero,Rat.mul_zero]
   rw[e];exact⟨by rw[show(0:Rat).num.natAbs=0 from rfl,eO];exact ajH _,ajD (di zd) hk⟩
 · have hn0:y.num*(x.den:Int)≠0:=Int.mul_ne_zero (AY h) (by have:=x.den_nz;omega)
   rw[←Am,←pZ hn0];refine N9 zo ?_ ?_
   · rw[kB]
     exact gb hx.1 (by simp only[akd];exact hy.2)
   · have:=gb (x:=y.num) (y:=(x.den:Int)) hy.1 (by simp only[akd];exact hx.2)
     omega
theorem Fj {x:Rat} (hx:RS 400000 x):aA Tryz.prog 167 [RV x] [] (WV x.floor) []:=by
 obtain ⟨hx1,hx2⟩:=hx;have hd:=MW (x:=x.num) (y:=(x.den:Int)) (by have:=x.den_nz;omega) zo (by simp only[akd];omega);rw[←Rat.floor_def] at hd;refine zF Ot Tryz.call167 Tryz.func167 [.cell 2 232] fun Q hQ=>?_;refine ae ?_;refine zC (kh (x:=x) zo) ?_;refine zC hd ?_;exact ak [] hQ
theorem KY {n M:Nat} {m:Int} (hm:max 0 m=(M:Int)) (hM:M≤9223372036854775807) (hn:(wg n).length≤1000000):aA Tryz.prog 171 [NV n,.lit (.int .i64 m)] [] (.lit (.int .i64 ((min n M:Nat):Int))) []:=by
 refine zF pl Tryz.call171 Tryz.func171 [.tmp 4] fun Q hQ=>?_;have hnl:=ay (wg n)
 by_cases h1:1<(wg n).length
 · have hgt:18446744073709551616≤n:=by
    refine Classical.byContradiction fun h=>?_
    have:=di (n:=n) zo
    omega
   rw[show min n M=M by omega] at hQ;have hc:decide ((1:Int)<((nl (wg n)).length:Int))=true:=aju zo
   simp(maxSteps:=1000000) (disch:=(first | omega | (simp only[cQ,ajl,ajo,true_and,and_true];(try omega);done) | fail)) only[go_sem,hm,hc,Int.reduceEq,Int.reduceToNat,Nat.reduceAdd,Nat.reduceMul,Nat.reduceEqDiff, ↓reduceIte]
   exact ak [] hQ
 · have hc:decide ((1:Int)<((nl (wg n)).length:Int))=false:=ajn zo
   by_cases h0:n=0
   · subst h0
     rw[eO] at hnl;rw[show min 0 M=0 by omega] at hQ;have hz:=dM (n:=0) (by rw[eO];decide);rw[pP] at hz;refine ej hm @eO ?_;refine zC hz ?_;exact ak [] hQ
   · have h2:(wg n).length=1:=by have:=uL h0;omega
     have hw:=uH h2;have hlt:n<18446744073709551616:=eW n n (by rw[hw];simp);have hn1:nl (wg n)=[(n:Int)]:=by rw[hw];rfl
     by_cases hle:M<n
     · rw[show min n M=M by omega] at hQ
       refine ej hm hn1 ?_;exact ak [] hQ
     · rw[show min n M=n by omega] at hQ
       have hz:=dM (n:=n) zo;rw[ajn h0] at hz;unfold NV at hz;rw[hn1] at hz;refine ej hm hn1 ?_;refine zC hz ?_;exact ak [] hQ
theorem qF {L:List Bool} {D:Nat}:∀f r p,p≤L.length→ox L D f r p=(false,8,L.length,true)∨∃b q,ox L D f r p=(b,0,q,false)∧p<q∧q≤L.length
 | 0,_,_,_=>.inl rfl
 | f+1,r,p,hp=>by
   rw[i7]
   by_cases h:p<L.length
   · rw[if_pos h]
     by_cases hc:L.getD p false=decide (D≤r+r)∧(if D≤r+r then r+r-D else r+r)≠0
     · rw[if_pos hc]
       rcases qF f (if D≤r+r then r+r-D else r+r) (p+1) h with e | ⟨b,q,e,h1,h2⟩
       · exact .inl e
       · exact .inr ⟨b,q,e,by omega,h2⟩
     · rw[if_neg hc]
       exact .inr ⟨_,_,rfl,by omega,h⟩
   · rw[if_neg h]
     exact .inl rfl
def Vn (P D:Nat):Prop:=¬(D=0∨D<P)
theorem qM {L:List Bool} {P D p:Nat} (hg:Vn P D) (hp:p≤L.length):fm L P D p=(false,8,L.length,true)∨∃b q,fm L P D p=(b,0,q,false)∧p≤q∧q≤L.length:=by
 unfold fm;rw[if_neg hg]
 split
 · exact .inr ⟨_,_,rfl,ajp _,hp⟩
 · split
   · exact .inr ⟨_,_,rfl,ajp _,hp⟩
   · rcases qF (L:=L) (D:=D) (L.length+1-p) P p hp with e | ⟨b,q,e,h1,h2⟩
     · exact .inl e
     · exact .inr ⟨b,q,e,by omega,h2⟩
def yj (L:List Bool) (P D:Nat):Nat→Nat→Bool×Int×Nat×Bool
 | 0,p=>(true,0,p,false)
 | k+1,p=>if (fm L P D p).1 then yj L P D k (fm L P D p).2.2.1 else fm L P D p
theorem EP (L:List Bool) (P D p:Nat):yj L P D 0 p=(true,0,p,false):=rfl
theorem tK (L:List Bool) (P D k p:Nat):yj L P D (k+1) p=if (fm L P D p).1 then yj L P D k (fm L P D p).2.2.1 else fm L P D p:=rfl
def EA (L:List Bool) (P D K p:Nat):Bool×Int×Nat×Bool:=if D=0∨D<P then(false,2,p,false) else yj L P D K p
theorem Ho {L:List Bool} {P D p K:Nat} {k:Int} (hL:L.length≤1048576) (hp:p≤L.length) (hP:(wg P).length≤500000) (hD1:(wg D).length≤500000) (hk:max 0 k=(K:Int)) (hK:K<9223372036854775807):aA Tryz.prog 238 [.ref 0 0 0 0,NV P,NV D,.lit (.int .i64 k)] [some (bt L p false)]
 (.tup [.lit (.bool (EA L P D K p).1),.lit (.int .i64 (EA L P D K p).2.1)]) [some (bt L (EA L P D K p).2.2.1 (EA L P D K p).2.2.2)]:=by
 refine zF pl Tryz.call238 Tryz.func238 [.tmp 8,.tmp 9] fun Q hQ=>?_;unfold EA at hQ;refine ae ?_;refine aB (pT (P:=P) (D:=D) zo zo) rfl rfl ?_
 by_cases h1:D=0∨D<P
 · rw[ajn (fun h=>h h1)]
   rw[if_pos h1] at hQ;exact zE [some 0] hQ
 · rw[aju h1]
   rw[if_neg h1] at hQ
   simp(maxSteps:=1000000) (disch:=(first | omega | (simp only[cQ,ajl,ajo,true_and,and_true];(try omega);done) | fail)) only[go_sem,hk,Int.reduceEq,Int.reduceToNat,Nat.reduceAdd,Nat.reduceMul,Nat.reduceEqDiff, ↓reduceIte]
   refine aR (X:=Nat×Nat) (st:=fun z=>([(0,.ref 0 0 0 0),(5,.ref 1 0 0 0),(6,.ref 2 0 0 0),(17,.lit (.int .i64 (K:Int))),(18,.lit (.int .i64 (z.1:Int)))],[some (bt L z.2 false),some (.cells [.row 1 ((nl (wg P)).map (ie .u64))]),some (.cells [.row 1 ((nl (wg D)).map (ie .u64))])]))
    (inv:=fun z=>z.1≤K∧z.2≤L.length∧yj L P D K p=yj L P D (K-z.1) z.2) (m:=fun z=>K-z.1) (0,p) [some 0,some 1,some 2] ⟨by simp,hp,rfl⟩ ?_
   rintro ⟨i,q⟩ ⟨hi,hq,hv⟩;simp only at hi hq hv ⊢
   by_cases hiK:i<K
   · obtain ⟨n,hn⟩:∃n,K-i=n+1:=⟨K-i-1,by omega⟩
     rw[hn,tK] at hv;have hr:=xq (L:=L) (P:=P) (D:=D) (p:=q) hL hq hP hD1;rcases qM (L:=L) (p:=q) h1 hq with e | ⟨b,q2,e,hq1,hq2⟩
     · rw[e] at hr hv
       rw[hv] at hQ;refine ae ?_;refine zW [some 0] [] hr ?_;exact ak [some 0] hQ
     · rw[e] at hr hv
       dsimp only at hr hv
       cases b with
       | false=>
         rw[if_neg (by simp)] at hv;rw[hv] at hQ;refine ae ?_;refine zW [some 0] [] hr ?_;exact ak [some 0] hQ
       | true=>
         rw[if_pos rfl] at hv;refine ae ?_;refine zW [some 0] [] hr ?_;refine aM (i+1,q2) [some 0,some 1,some 2] ⟨by simp only;omega,hq2,?_⟩ (by simp only;omega);simp only;rw[hv,show K-(i+1)=n by omega]
   · obtain rfl:i=K:=by omega
     rw[akz,EP] at hv;rw[hv] at hQ;exact zE [some 0] hQ
theorem rh {L:List Bool} {n w:Nat}:∀f q,q≤L.length→q≤(dx L n w f q).2.2.1∧(dx L n w f q).2.2.1≤L.length
 | 0,q,h=>⟨h,ajp _⟩
 | f+1,q,h=>by
   unfold dx
   split
   · split
     · exact⟨akB _ _,by assumption⟩
     · obtain ⟨h1,h2⟩:=rh (n:=n) (w:=w) f (q+w) (by assumption)
       exact⟨by omega,h2⟩
   · exact⟨h,ajp _⟩
theorem sZ {L:List Bool} {n p:Nat} (h:p≤L.length):p≤(cg L n p).2.2.1∧(cg L n p).2.2.1≤L.length:=rh _ _ h
theorem nT {L:List Bool} {n p:Nat} (hn:0<n):cg L n p=(0,8,L.length,true)∨∃x q,x<n∧cg L n p=(x,0,q,false):=by
 unfold cg;generalize bl (n-1)=w;generalize L.length+1-p=f
 induction f generalizing p with
 | zero=>exact .inl rfl
 | succ f ih=>
   unfold dx
   split
   · split
     · rename_i h;exact .inr ⟨_,_,h,rfl⟩
     · exact ih
   · exact .inl rfl
def agf (N took:Nat) (e:Int):V:=.agg [.lit (.int .u64 (N:Int)),.lit (.int .i64 (took:Int)),.lit (.int .i64 e)]
attribute [go_sem] agf
def wrP (L:List Bool):V:=.rref 2 [[.row 1 ((pk L).map (ie .u8)),.lit (.int .i64 (L.length:Int))]] 0 0
attribute [go_sem] wrP
theorem uv {L:List Bool} (hm:L.length<1099511627776):aA Tryz.prog 45 [wrP L] [] (.sl 0 1 0 (pk L).length) [some (jy L)]:=by
 refine zF pl Tryz.call45 Tryz.func45 [.tmp 2] fun Q hQ=>?_;have hpl:=kQ L;exact zE [some 0] hQ
theorem IU (a b:Nat) (hb:b<8):a*8 ||| b=a*8+b:=by
 have:=ale (i:=3) (b:=b) hb a
 rw[show(2:Nat)^3=8 from rfl,ajJ 8 a] at this;exact this.symm
theorem LY {a b:Nat} (ha:a<18446744073709551616) (hb:b<18446744073709551616):aA Tryz.prog 174 [.lit (.int .u64 a),.lit (.int .u64 b)] [] (.lit (.int .u64 ((a*b%pr:Nat):Int))) []:=by
 refine zF pl Tryz.call174 Tryz.func174 [.tmp 4] fun Q hQ=>?_;have e1:(a:Int)%2305843009213693951=((a%2305843009213693951:Nat):Int):=by omega
 have e2:(b:Int)%2305843009213693951=((b%2305843009213693951:Nat):Int):=by omega
 have hab:a*b%pr=(a%2305843009213693951)*(b%2305843009213693951)%2305843009213693951:=by unfold pr;rw[←Nat.mul_mod]
 rw[hab] at hQ;have l1:a%2305843009213693951<2305843009213693951:=ajI _ zd;have l2:b%2305843009213693951<2305843009213693951:=ajI _ zd;generalize a%2305843009213693951=x at*
 generalize b%2305843009213693951=y at*
 have hxy:x*y≤2305843009213693950*2305843009213693950:=ajO zo zo;refine ej e1 e2 ?_;refine aB (rB (x:=x) (y:=y) zo zo) rfl rfl ?_;generalize x*y=z at*
 have hm:=ae8 z;have hhi:z/18446744073709551616<288230376151711744:=by omega
 have f1:((z%18446744073709551616:Nat):Int)%2305843009213693952=((z%2305843009213693952:Nat):Int):=by omega
 have f2:((z%18446744073709551616:Nat):Int)/2305843009213693952=((z%18446744073709551616/2305843009213693952:Nat):Int):=by omega
 have f3:((z/18446744073709551616:Nat):Int)*8=((z/18446744073709551616*8:Nat):Int):=by omega
 have f4:cv .or .u64 ((z/18446744073709551616*8:Nat):Int) ((z%18446744073709551616/2305843009213693952:Nat):Int)=((z/2305843009213693952:Nat):Int):=by
  rw[iE zo zo,IU _ _ zo];omega
 have f5:(((z%2305843009213693952:Nat):Int)+((z/2305843009213693952:Nat):Int))%2305843009213693951=((z%2305843009213693951:Nat):Int):=by omega
 refine PN f1 f2 f3 f4 f5 ?_;exact ak [] hQ
end Go.Proofs.YtcnlmelpnflhnaaGreat
