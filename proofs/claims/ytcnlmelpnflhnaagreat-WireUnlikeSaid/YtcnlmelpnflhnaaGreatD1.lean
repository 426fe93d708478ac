import Derived.Test.YtcnlmelpnflhnaaGreatE7
import Derived.Test.YtcnlmelpnflhnaaGreatRa
import Derived.Test.YtcnlmelpnflhnaaGreatE6
import Derived.Test.YtcnlmelpnflhnaaGreatE8
namespace Go.Proofs.YtcnlmelpnflhnaaGreat
open Go.Eng
set_option linter.unusedSimpArgs false
set_option linter.unusedVariables false
theorem GA {u d y1 y0:Nat} (hd:d<4294967296) (hy:0<y1):(u*4294967296+d)/(y1*4294967296+y0)≤u/y1:=by
 rw[ahL hy];have h:=aiU (u*4294967296+d) (y1*4294967296+y0);generalize (u*4294967296+d)/(y1*4294967296+y0)=Q at*
 rw[ag1,←agZ] at h;generalize Q*y1=a at*
 generalize Q*y0=b at*
 omega
theorem yo {u y1 y0:Nat} (hy1:2147483648≤y1) (hy0:y0<4294967296) (hu:u<y1*4294967296+y0):u/y1≤4294967297:=by
 have h:=aiU u y1;refine Classical.byContradiction fun hn=>?_;have h2:=agP y1 (show 4294967298≤u/y1 by omega);omega
theorem D4 {u d y1 y0 q r:Nat} (hd:d<4294967296) (hu:u<y1*4294967296+y0) (hi:q*y1+r=u) (hq:(u*4294967296+d)/(y1*4294967296+y0)≤q) (hc:4294967296≤q∨4294967296*r+d<q*y0):
 0<q∧(u*4294967296+d)/(y1*4294967296+y0)≤q-1∧(q-1)*y1+(r+y1)=u:=by
 have hy:0<y1*4294967296+y0:=by omega
 have hlt:(u*4294967296+d)/(y1*4294967296+y0)<q:=by
  rw[agY hy];rcases hc with hc | hc
  · have h1:4294967296*(y1*4294967296+y0)≤q*(y1*4294967296+y0):=agP _ hc
    omega
  · rw[ag1,←agZ]
    generalize q*y1=a at*
    generalize q*y0=b at*
    omega
 have hq0:0<q:=ahb (agM _) hlt;obtain ⟨k,rfl⟩:∃k,q=k+1:=⟨q-1,by omega⟩;rw[ahX];rw[agH,ahH] at hi;exact⟨hq0,ai3 hlt,by omega⟩
theorem rU {u d y1 y0 q r:Nat} (hy:0<y1*4294967296+y0) (hi:q*y1+r=u) (hq:(u*4294967296+d)/(y1*4294967296+y0)≤q) (hc:q*y0≤4294967296*r+d):
 q=(u*4294967296+d)/(y1*4294967296+y0):=by
 refine Nat.le_antisymm ?_ hq;rw[ahL hy,ag1,←agZ];generalize q*y1=a at*
 generalize q*y0=b at*
 omega
theorem xL {u d y1 y0 q r:Nat} (hy:0<y1*4294967296+y0) (hy0:y0<4294967296) (hi:q*y1+r=u) (hq:(u*4294967296+d)/(y1*4294967296+y0)≤q) (hq2:q≤4294967296) (hr:4294967296≤r):
 q=(u*4294967296+d)/(y1*4294967296+y0):=by
 refine rU hy hi hq ?_
 have:=agQ hq2 (show y0≤4294967295 by omega)
 omega
theorem N9 {b N2 un1 un0 Y:Nat} (hY:0<Y) (hu:N2<Y) (h1:un1<b) (h0:un0<b):
 (N2*b+un1)/Y*b+((N2*b+un1)%Y*b+un0)/Y=((N2*b+un1)*b+un0)/Y∧
 ((N2*b+un1)%Y*b+un0)%Y=((N2*b+un1)*b+un0)%Y∧
 (N2*b+un1)/Y<b∧((N2*b+un1)%Y*b+un0)/Y<b:=by
 have key:∀x z:Nat,x<Y→z<b→(x*b+z)/Y<b:=fun x z hx hz=>by
  rw[agY hY]
  have:=agP b (show x+1≤Y from hx)
  rw[agH,ahH] at this;rw[agK b Y];omega
 have e1:=agT (N2*b+un1) Y;have l1:=agJ (N2*b+un1) hY;have q1:=key N2 un1 hu h1;generalize hA:N2*b+un1=A at*
 generalize A/Y=Q1 at*
 generalize A%Y=R1 at*
 have e2:=agT (R1*b+un0) Y;have l2:=agJ (R1*b+un0) hY;have q2:=key R1 un0 l1 h0;generalize hC:R1*b+un0=C at*
 generalize C/Y=Q0 at*
 generalize C%Y=R0 at*
 have hs:R0+Y*(Q1*b+Q0)=A*b+un0:=by
  rw[ag1,←agZ,←e1,agH];omega
 have hdm:=(Nat.div_mod_unique hY (a:=A*b+un0) (c:=R0) (d:=Q1*b+Q0)).2 ⟨hs,l2⟩;exact⟨hdm.1.symm,hdm.2.symm,q1,q2⟩
theorem s6 {a y s:Nat} (hy:0<y):a*2^s/(y*2^s)=a/y∧a*2^s%(y*2^s)=a%y*2^s:=by
 have hp:0<2^s:=agV zd;exact⟨Nat.mul_div_mul_right _ _ hp,aiF _ _ _⟩
theorem wb {hi lo y s:Nat} (hs:s≤63) (hlo:lo<18446744073709551616) (hhi:hi<y) (hy:y*2^s<18446744073709551616):
 (hi*2^s+lo/2^(64-s))*18446744073709551616+lo*2^s%18446744073709551616=(hi*18446744073709551616+lo)*2^s∧
 hi*2^s+lo/2^(64-s)<y*2^s∧lo/2^(64-s)<2^s:=by
 have e:(18446744073709551616:Nat)=2^(64-s)*2^s:=by rw[←ahq,show 64-s+s=64 by omega]
 have hp:0<2^s:=agV zd;have hq:0<2^(64-s):=agV zd;have hmm:lo*2^s%18446744073709551616=lo%2^(64-s)*2^s:=by rw[e,aiF]
 have hl:lo/2^(64-s)<2^s:=by rw[agY hq,agK,←e];exact hlo
 refine⟨?_,?_,hl⟩
 · rw[hmm]
   have h:=agT lo (2^(64-s));generalize lo/2^(64-s)=a at*
   generalize lo%2^(64-s)=b at*
   rw[←h,agH,e];generalize 2^s=S at*
   generalize 2^(64-s)=T at*
   simp only[agH,ag1,agZ,agK,ahZ,ahQ,ah1,Nat.add_left_comm]
 · have:=agP (2^s) (show hi+1≤y from hhi)
   rw[agH,ahH] at this;omega
theorem Je {y:Nat} (h0:0<y) (h:y<18446744073709551616):64-bl y≤63∧bl y≤64∧9223372036854775808≤y*2^(64-bl y)∧y*2^(64-bl y)<18446744073709551616:=by
 have h1:=bB (n:=y) (k:=64) zo;have h2:=jc (n:=y) zo;have h3:=nT (n:=y) zo;have h4:=jr y;refine⟨by omega,h1,?_,?_⟩
 · have:=agP (2^(64-bl y)) h3
   rw[←ahq,show bl y-1+(64-bl y)=63 by omega] at this;exact this
 · have:=aiB h4 (show 0<2^(64-bl y) from agV zd)
   rw[←ahq,show bl y+(64-bl y)=64 by omega] at this;exact this
def fw (B:Nat):Nat→Nat→List Nat
 | 0,_=> []
 | k+1,v=>v%B::fw B k (v/B)
theorem cj {B:Nat}:∀k v,(fw B k v).length=k
 | 0,_=>rfl
 | k+1,v=>by show(fw B k (v/B)).length+1=_;rw[cj k]
theorem nV {B:Nat} (hB:0<B):∀k v,∀d∈fw B k v,d<B
 | 0,_,d,hd=>by simp[fw] at hd
 | k+1,v,d,hd=>by
   rcases agG.1 hd with rfl | hd
   · exact agJ _ hB
   · exact nV hB k _ d hd
theorem jN {B:Nat} (hB:0<B):∀k v,aA B (fw B k v)=v%B^k
 | 0,v=>by rw[aiP,Nat.mod_one];rfl
 | k+1,v=>by
   show v%B+B*aA B (fw B k (v/B))=_;rw[jN hB k,agS,agK (B^k),Nat.mod_mul]
theorem Gj {B:Nat}:∀{l:List Nat},(∀d∈l,d<B)→fw B l.length (aA B l)=l
 | [],_=>rfl
 | d::l,h=>by
   have hd:=h d (by simp);have ih:=Gj (l:=l) (fun x hx=>h x (by simp[hx]))
   show(d+B*aA B l)%B::fw B l.length ((d+B*aA B l)/B)=_
   rw[Nat.add_mul_mod_self_left,agL hd,air _ _ zo,ahG hd,agU,ih]
theorem vK {B k v:Nat} {l:List Nat} (h:∀d∈l,d<B) (hk:l.length=k) (hv:aA B l=v):fw B k v=l:=by rw[←hk,←hv];exact Gj h
theorem jd {B:Nat}:∀a b v,fw B (a+b) v=fw B a v++fw B b (v/B^a)
 | 0,b,v=>by rw[agU,aiP,Nat.div_one];rfl
 | a+1,b,v=>by
   rw[show a+1+b=(a+b)+1 by omega];show v%B::fw B (a+b) (v/B)=v%B::(fw B a (v/B)++fw B b (v/B^(a+1)));rw[jd a b,agS,agK,ahs]
theorem yZ {B:Nat} (hB:0<B):∀k v,fw B k (v%B^k)=fw B k v
 | 0,_=>rfl
 | k+1,v=>by
   show v%B^(k+1)%B::fw B k (v%B^(k+1)/B)=v%B::fw B k (v/B);rw[agS,Nat.mod_mul_left_mod,agK,Nat.mod_mul_right_div_self,yZ hB k]
theorem ic {B:Nat}:∀{k i} (v:Nat),i<k→(fw B k v).getD i 0=v/B^i%B
 | 0,_,_,h=>absurd h (Nat.not_lt_zero _)
 | k+1,0,v,_=>by simp[fw]
 | k+1,i+1,v,h=>by
   show(fw B k (v/B)).getD i 0=_
   rw[ic (v/B) zo,agS,agK (B^i),ahs]
def iv (P N T:List Nat):List Nat:=P++(N++T.drop N.length)
theorem l7 (P T:List Nat):iv P [] T=P++T:=rfl
theorem mW {P N T:List Nat} (h:N.length≤T.length):(iv P N T).length=P.length+T.length:=by unfold iv;simp;omega
theorem mi {P N T:List Nat} {i:Nat} (h:N.length≤i) (hi:i<T.length):(iv P N T).getD (P.length+i) 0=T.getD i 0:=by
 unfold iv;rw[ago,agy zo,agy zo,ahh,ago]
 congr 2
 omega
theorem tH {P N T:List Nat} {x:Nat} (h:N.length<T.length):(iv P N T).set (P.length+N.length) x=iv P (N++[x]) T:=by
 unfold iv;rw[aiG (h:=by omega),Nat.add_sub_cancel_left,aiG (h:=agt _),ahJ,ahn h,aiC,agn,aip,agw]
 rfl
theorem E8 {U D P:Nat} (hP:0<P) (h:0<D/P):U/D≤U/P/(D/P):=by
 rw[ahL h,ahL hP];have h1:=aiU D P;have h2:=aiU U D;have h3:=ahl (U/D) h1;rw[←agZ] at h3;exact agI h3 h2
theorem acZ {B n U D:Nat} (hB:0<B) (hn:0<n) (hU:U<B^(n+1)) (hD:D<B^n):
 U/B^n%B=U/B^n∧D/B^(n-1)%B=D/B^(n-1)∧U/B^n*B+U/B^(n-1)%B=U/B^(n-1):=by
 obtain ⟨m,rfl⟩:∃m,n=m+1:=⟨n-1,by omega⟩;rw[ahX];refine⟨?_,?_,?_⟩
 · refine agL ?_
   rw[agY (agV hB),agK,←agS];exact hU
 · refine agL ?_
   rw[agY (agV hB),agK,←agS];exact hD
 · rw[show U/B^(m+1)=U/B^m/B by rw[agS,ahs],agK,agT]
theorem Bs {U D Q X V g:Nat} (hQ:Q=U/D) (h:V+g*D=U+X) (hg:g=Q+1):V+D=U%D+X:=by
 have:=agT U D
 subst hg;rw[agH,ahH] at h;rw[←hQ,agK] at this;omega
theorem Bu {U D X V g:Nat} (hD:0<D) (hQ:U/D+1<g) (h:V+g*D=U+X):V+D<X∧(V+D)+(g-1)*D=U+X:=by
 obtain ⟨k,rfl⟩:∃k,g=k+1:=⟨g-1,by have:=agM (U/D);omega⟩;rw[ahX];rw[agH,ahH] at h
 have h1:U<k*D:=by
  rw[←agY hD];omega
 exact⟨by omega,by omega⟩
theorem Ew {B n U D V g:Nat} (hB:0<B) (hD:D<B^n) (hg:g<B) (h:V+g*D=U+B^(n+1)):B^n≤V:=by
 have h1:g*D≤(B-1)*B^n:=agQ zo (ai4 hD)
 have h2:B^(n+1)=(B-1)*B^n+B^n:=by
  obtain ⟨k,rfl⟩:∃k,B=k+1:=⟨B-1,by omega⟩;rw[ahX,agS,agK,agH,ahH]
 omega
def dw (B A D k:Nat):Nat:=A/B^k%D*B^k+A%B^k
theorem pq {B A D i:Nat} (hB:0<B):dw B A D (i+1)/B^i=A/B^(i+1)%D*B+A/B^i%B:=by
 unfold dw;have hP:0<B^i:=agV hB;have e:A%B^(i+1)=A%B^i+B^i*(A/B^i%B):=Nat.mod_pow_succ;rw[e,agS];generalize A/(B^i*B)%D=r;have hm:=agJ A hP;generalize A%B^i=x at*
 generalize A/B^i%B=y at*
 have e2:r*(B^i*B)+(x+B^i*y)=x+B^i*(r*B+y):=by
  rw[ahZ r,ag1,Nat.add_left_comm]
 rw[e2,air _ _ hP,ahG hm,agU]
theorem FW {B A D i:Nat} (hB:0<B):dw B A D (i+1)%B^i=A%B^i:=by
 unfold dw;have e:A%B^(i+1)=A%B^i+B^i*(A/B^i%B):=Nat.mod_pow_succ;rw[e,agS];generalize A/(B^i*B)%D=r;generalize hy:A/B^i%B=y;have hx:=Nat.mod_mod A (B^i);generalize A%B^i=x at*
 have e2:r*(B^i*B)+(x+B^i*y)=x+B^i*(r*B+y):=by
  rw[ahZ r,ag1,Nat.add_left_comm]
 rw[e2,Nat.add_mul_mod_self_left,hx]
theorem IF {B A D i:Nat} (hB:0<B) (hD:0<D):dw B A D (i+1)/B^i<D*B:=by
 rw[pq hB];have h1:=agJ (A/B^(i+1)) hD;have h2:=agJ (A/B^i) hB;generalize A/B^(i+1)%D=r at*
 generalize A/B^i%B=y at*
 have:=agP B (show r+1≤D from h1)
 rw[agH,ahH] at this;omega
theorem qU {B A i:Nat} (hB:0<B):A/B^i=A/B^(i+1)*B+A/B^i%B:=by
 rw[agS,←ahs,Nat.div_add_mod']
theorem B4 {B A D i:Nat} (hB:0<B):dw B A D (i+1)/B^i%D*B^i+A%B^i=dw B A D i:=by
 rw[pq hB];unfold dw
 congr 2
 conv=>rhs;rw[qU (i:=i) (A:=A) hB]
 have h:=agT (A/B^(i+1)) D;generalize A/B^i%B=y;generalize A/B^(i+1)%D=r at*
 generalize A/B^(i+1)/D=q at*
 rw[←h,agH,ahQ,agZ,Nat.mul_add_mod]
theorem GC {B A D i:Nat} (hB:0<B) (hD:0<D):dw B A D (i+1)/B^i/D+B*(A/B^(i+1)/D)=A/B^i/D:=by
 rw[pq hB]
 conv=>rhs;rw[qU (i:=i) (A:=A) hB]
 have h:=agT (A/B^(i+1)) D;generalize A/B^i%B=y;generalize A/B^(i+1)%D=r at*
 generalize A/B^(i+1)/D=q at*
 rw[←h,agH,ahQ,agZ,Nat.mul_add_div hD,agK q B,ah1]
theorem xV {B A D k:Nat} (h:A/B^k<D):dw B A D k=A∧A/B^k/D=0:=by
 unfold dw;rw[agL h,ahG h,agK,agT];exact⟨rfl,rfl⟩
theorem Cr {B A D:Nat}:dw B A D 0=A%D:=by
 unfold dw;rw[aiP,Nat.div_one,Nat.mod_one,aid,ahA]
theorem yc {B V i n e:Nat}:fw B (i+(n+1+e)) V=fw B i V++(fw B (n+1) (V/B^i)++fw B e (V/B^i/B^(n+1))):=by
 rw[jd,jd]
theorem Bm {B V W i n e:Nat} (hB:0<B) (hV:V/B^i<B^(n+1)) (hW:W<B^(n+1)):
 fw B i V++(fw B (n+1) W++fw B e (V/B^i/B^(n+1)))=fw B (i+(n+1+e)) (W*B^i+V%B^i):=by
 have hP:0<B^i:=agV hB;rw[jd i,jd (n+1)]
 have e1:fw B i (W*B^i+V%B^i)=fw B i V:=by
  rw[←yZ hB i (W*B^i+V%B^i),agK,Nat.mul_add_mod,Nat.mod_mod,yZ hB]
 have e2:(W*B^i+V%B^i)/B^i=W:=by
  rw[agK,Nat.mul_add_div hP,ahG (agJ _ hP),ahA]
 rw[e1,e2,ahG hV,ahG hW]
theorem FA {l:List Nat} {i B:Nat} (h:i<l.length):aA B (l.drop i)=l.getD i 0+B*aA B (l.drop (i+1)):=by
 rw[ahn h];have e:l.getD i 0=l[i]:=by simp[ago,h]
 rw[e]
 rfl
theorem set_drop {l:List Nat} {i x:Nat} (h:i<l.length):(l.set i x).drop i=x::l.drop (i+1):=by
 rw[ahn (by simpa using h),List.getElem_set_self,ait zo]
open Go.Eng Go.Vx
set_option maxRecDepth 100000
theorem C5 {B:List Int} (hB:B.length≤140737488355327):aC Tryz.prog 100 [.row 1 (B.map (ie .u8))] [] (.row 1 (B.map (ie .u8))) []:=by
 refine zF pl Tryz.call100 Tryz.func100 [.tmp 2] fun Q hQ=>?_
 by_cases h:B=[]
 · subst h
   refine TV ?_;refine iO ?_ ?_
   · refine ae ?_
     exact ak [] hQ
   · refine ae ?_
     exact ak [] hQ
 · have he:(B.map (ie .u8)).isEmpty=false:=by simp[h]
   refine bh he ?_;exact ak [] hQ
def nB (B:List Int) (p:Nat):Ob:=.cells [.row 1 (B.map (ie .u8)),.lit (.int .i64 (p:Int))]
attribute [go_sem] nB
theorem HY.get {B:List Int} (h:HY B) (i:Nat):0≤B.getD i 0∧B.getD i 0≤255:=by
 rw[ago]
 cases hx:B[i]? with
 | none=>simp
 | some x=>exact h x (ahc hx)
theorem Al {B:List Int} (hB:B.length≤1099511627776):aC Tryz.prog 47 [.row 1 (B.map (ie .u8))] [] (.ref 0 0 0 0) [some (nB B 0)]:=by
 refine zF pl Tryz.call47 Tryz.func47 [.tmp 2] fun Q hQ=>?_;refine ae ?_;refine zC (C5 zo) ?_;exact ak [some 0] hQ
theorem Av {B:List Int} {p:Nat} (hB:B.length≤1099511627776) (hp:p≤8*B.length):aC Tryz.prog 102 [.ref 0 0 0 0] [some (nB B p)] (.lit (.int .i64 ((8*B.length-p:Nat):Int))) [some (nB B p)]:=by
 refine zF Hm Tryz.call102 Tryz.func102 [.tmp 2] fun Q hQ=>?_;refine ae ?_;rw[show((8:Int)*(B.length:Int)-(p:Int))=((8*B.length-p:Nat):Int) by omega];exact ak [some 0] hQ
theorem J9 {B:List Int} {p:Nat} (hI:HY B) (hB:B.length≤1099511627776) (hp:p<8*B.length):aC Tryz.prog 103 [.ref 0 0 0 0] [some (nB B p)] (.lit (.int .u64 ((((bitsOf B).getD p false).toNat:Nat):Int))) [some (nB B (p+1))]:=by
 refine zF Le Tryz.call103 Tryz.func103 [.tmp 2] fun Q hQ=>?_;have hx:=hI.get (p/8);have e0:((p:Int)/8).toNat=p/8:=by omega
 have e1:(7-(p:Int)%8).toNat=7-p%8:=by omega
 have hq:0≤B.getD (p/8) 0/2^(7-p%8)%2∧B.getD (p/8) 0/2^(7-p%8)%2≤1:=by
  have:=Int.emod_nonneg (B.getD (p/8) 0/2^(7-p%8)) (show(2:Int)≠0 by decide)
  have:=Int.emod_lt_of_pos (B.getD (p/8) 0/2^(7-p%8)) (show(0:Int)<2 by decide)
  omega
 have hb:=TB _ (J0 B p) rfl;rw[p6 B p hp] at hQ;rw[←hb] at hQ;refine dK e0 e1 ?_;exact ak [some 0] hQ
theorem l8 {B:List Int} {p w:Nat} (hI:HY B) (hB:B.length≤1099511627776) (hw:w≤64) (hp:p+w≤8*B.length):aC Tryz.prog 48 [.ref 0 0 0 0,.lit (.int .i64 (w:Int))] [some (nB B p)] (.tup [.lit (.int .u64 (numOf (((bitsOf B).drop p).take w):Int)),.lit (.int .i64 0)]) [some (nB B (p+w))]:=by
 refine zF pl Tryz.call48 Tryz.func48 [.tmp 4,.tmp 5] fun Q hQ=>?_;refine ae ?_;refine az (mD) rfl rfl ?_;rw[agC (show(0:Int)≤(w:Int)∧(w:Int)≤64 by omega)];refine zq6 ?_;refine zW [some 0] [] (Av (p:=p) hB zo) ?_
 refine aM (X:=Nat) (st:=fun i=>([(0,.ref 0 0 0 0),(6,.lit (.int .u64 (numOf (((bitsOf B).drop p).take i):Int))),(16,.lit (.int .i64 w)),(17,.lit (.int .i64 (i:Int)))],[some (nB B (p+i))]))
  (inv:=fun i=>i≤w) (m:=fun i=>w-i) 0 [some 0] rfl (by simp(maxSteps:=1000000) (disch:=(first | omega | (simp only[dm,agr,ags,true_and,and_true];(try omega);done) | fail)) only[go_sem,Int.reduceEq,Int.reduceToNat,Nat.reduceAdd,Nat.reduceMul,Nat.reduceEqDiff, ↓reduceIte];simp) (by simp(maxSteps:=1000000) (disch:=(first | omega | (simp only[dm,agr,ags,true_and,and_true];(try omega);done) | fail)) only[go_sem,Int.reduceEq,Int.reduceToNat,Nat.reduceAdd,Nat.reduceMul,Nat.reduceEqDiff, ↓reduceIte];simp[numOf]) (agM _) ?_
 intro i hi;have hbl:=jb B
 by_cases hil:i<w
 · refine ae ?_
   refine zW [some 0] [] (J9 (p:=p+i) hI hB zo) ?_;refine aG (i+1) [some 0] rfl ?_ ?_ zo zo
   · (simp(disch:=(first | omega | (simp only[dm,agr,ags,true_and,and_true];(try omega);done) | fail)) only[go_sem,Int.reduceEq,Int.reduceToNat,Nat.reduceAdd,Nat.reduceMul,Nat.reduceEqDiff, ↓reduceIte,true_and,and_true,and_self,agO,agF,agt,V.lit.injEq,Value.int.injEq,Value.bool.injEq];try (first | omega | (simp;done) | (simp;omega)))
   · dsimp only
     have hlt:=fE (((bitsOf B).drop p).take i)
     have hlt2:numOf (((bitsOf B).drop p).take i)<9223372036854775808:=ag6 hlt (by
      have:((((bitsOf B).drop p).take i)).length≤63:=by simp;omega
      exact agA (n:=2) zd this)
     refine zq7 ?_;rw[ko zo,pb,Ax _ _ hlt2]
     simp
 · refine ae ?_
   obtain rfl:i=w:=by omega
   exact ak [some 0] hQ
def gO (c:Nat):Nat:=if c%2=1 then(c/2)^^^3988292384 else c/2
def bL (c:Nat):Nat→Nat
 | 0=>c
 | k+1=>gO (bL c k)
def entry (i:Nat):Nat:=bL i 8
theorem Fi {c:Nat} (h:c<4294967296):gO c<4294967296:=by
 unfold gO
 split
 · exact aiA (n:=32) zo zo
 · omega
theorem gj {c:Nat} (h:c<4294967296):∀k,bL c k<4294967296
 | 0=>h
 | k+1=>Fi (gj h k)
theorem Fc {i:Nat} (h:i<256):entry i<4294967296:=gj zo 8
def enV (i:Nat):Value:=.int .u32 (entry i:Int)
def la (i:Nat):List Value:=(List.range i).map enV++List.replicate (256-i) (.int .u32 0)
theorem BM {i:Nat} (h:i≤256):(la i).length=256:=by
 unfold la;rw[agn,agr,ags,agN];omega
theorem Bj {i:Nat} (h:i<256):(la i).set i (enV i)=la (i+1):=by
 unfold la;rw[aiZ,ah4,aiG _ _ (by simp)];simp only[agr,ags,ahJ,agR,ag2,agw,List.singleton_append];rw[show 256-i=(256-(i+1))+1 by omega,ahN]
 rfl
theorem Cb {m:Nat} (h:m<256):(la 256)[m]? =some (enV m):=by
 unfold la;rw[agx (by simpa using h),ag4,aih h]
 rfl
theorem xv:la 0=List.replicate 256 (.int .u32 0):=by
 unfold la;rw[List.range_zero,ag2,aht]
theorem wa (x y:Nat):(x^^^y)%2=(x+y)%2:=by
 have h:=Nat.xor_mod_two_pow (a:=x) (b:=y) (n:=1);rw[show(2:Nat)^1=2 from rfl] at h;rw[h];rcases aiK x with hx | hx<;>rcases aiK y with hy | hy<;>rw[hx,hy]<;>simp<;>omega
theorem CP (x y:Nat):gO (x^^^y)=gO x^^^gO y:=by
 have h1:(x^^^y)/2=(x/2)^^^(y/2):=Nat.xor_div_two;have h2:(x^^^y)%2=(x+y)%2:=wa x y;unfold gO;rw[h1,h2];rcases aiK x with hx | hx<;>rcases aiK y with hy | hy
 · rw[if_neg zo,if_neg zo,if_neg zo]
 · rw[if_pos zo,if_neg zo,if_pos zo,aiL]
 · rw[if_pos zo,if_pos zo,if_neg zo,aiL,aiL,Nat.xor_comm (y/2)]
 · rw[if_neg zo,if_pos zo,if_pos zo]
   rw[Nat.xor_comm (y/2),aiL,←aiL 3988292384,Nat.xor_self,Nat.zero_xor]
theorem rf (x y:Nat):∀k,bL (x^^^y) k=bL x k^^^bL y k
 | 0=>rfl
 | k+1=>by rw[bL,bL,bL,rf x y k,CP]
theorem CR (x:Nat):gO (2*x)=x:=by
 unfold gO;rw[if_neg zo];omega
theorem n5 (x:Nat):∀k,bL x (k+1)=bL (gO x) k
 | 0=>rfl
 | k+1=>by rw[bL,n5 x k,bL]
theorem pT (x:Nat):∀k,bL (2^k*x) k=x
 | 0=>by simp[bL]
 | k+1=>by rw[n5,agS,show 2^k*2*x=2*(2^k*x) by rw[agK (2^k) 2,agZ],CR,pT x k]
theorem Jo (c:Nat):c=(c%256)^^^(256*(c/256)):=by
 apply ah6;intro i;rw[Nat.testBit_xor,show(256:Nat)=2^8 from rfl,ahO,Nat.testBit_two_pow_mul,ah5]
 by_cases h:i<8
 · have:¬8≤i:=by omega
   simp[h,this]
 · have h':8≤i:=by omega
   simp[h,h',Nat.sub_add_cancel h']
theorem od {x y:Nat} (hx:x<2147483648) (hy:y<2147483648):x^^^3988292384≠y:=by
 intro h;have h1:=congrArg (fun n=>n.testBit 31) h;simp only[Nat.testBit_xor] at h1;rw[ahY (i:=31) (x:=x) hx,ahY (i:=31) (x:=y) hy] at h1
 revert h1
 decide
theorem xZ {x y z:Nat} (h:x^^^z=y^^^z):x=y:=by
 have:=congrArg (· ^^^z) h
 simpa [aiL] using this
theorem DC {x y:Nat} (hx:x<4294967296) (hy:y<4294967296) (h:gO x=gO y):x=y:=by
 unfold gO at h
 split at h<;>split at h
 · have:=xZ h
   omega
 · exact absurd h (od zo zo)
 · exact absurd h.symm (od zo zo)
 · omega
theorem zp {x y:Nat} (hx:x<4294967296) (hy:y<4294967296):∀k,bL x k=bL y k→x=y
 | 0,h=>h
 | k+1,h=>zp hx hy k (DC (gj hx k) (gj hy k) h)
def ms (c b:Nat):Nat:=entry ((c%256)^^^b)^^^(c/256)
theorem Sp (c b:Nat):ms c b=bL (c^^^b) 8:=by
 have h:c^^^b=(c%256^^^b)^^^(256*(c/256)):=by
  conv=>lhs;rw[Jo c]
  rw[aiL,Nat.xor_comm _ b,←aiL]
 rw[h,rf];unfold ms entry
 congr 1
 exact(pT (c/256) 8).symm
theorem TQ {c b:Nat} (hc:c<4294967296) (hb:b<256):ms c b<4294967296:=by
 rw[Sp];exact gj (aiA (n:=32) hc zo) 8
def nF (c:Nat) (l:List Nat):Nat:=l.foldl ms c
theorem Gt (c:Nat) (l m:List Nat):nF c (l++m)=nF (nF c l) m:=by simp[nF]
theorem AV:∀{l:List Nat} {c:Nat},(∀x∈l,x<256)→c<4294967296→nF c l<4294967296
 | [],c,_,h=>h
 | b::l,c,hl,h=>AV (l:=l) (fun x hx=>hl x (by simp[hx])) (TQ h (hl b (by simp)))
def gy (l:List Nat):Nat:=4294967295-nF 4294967295 l
theorem zY (l:List Nat):gy l<4294967296:=by unfold gy;omega
def leN:List Nat→Nat
 | []=>0
 | b::l=>b^^^(256*leN l)
theorem xT (c j:Nat):∀k,bL (bL c j) k=bL c (j+k)
 | 0=>rfl
 | k+1=>by rw[bL,xT c j k];rfl
def iE (s:Nat):List Nat:=[s/16777216%256,s/65536%256,s/256%256,s%256]
theorem I5 (s:Nat):∀x∈iE s,x<256:=fun x hx=>by
 simp only[iE,agG,ahd,or_false] at hx;omega
def cU (l:List Nat):List Nat:=l++iE (gy l)
theorem gl (l:List Nat):(cU l).length=l.length+4:=by simp[cU,iE]
theorem Eh {l:List Nat} (h:∀x∈l,x<256):∀x∈cU l,x<256:=fun x hx=>by
 rcases ah2.1 hx with h' | h'
 · exact h x h'
 · exact I5 _ x h'
theorem zA (l:List Nat):(cU l).take l.length=l:=ahy rfl
theorem EN {x:Nat} (h:x<4294967296):4294967295-x=x^^^4294967295:=by
 have h1:=BitVec.toNat_not (x:=BitVec.ofNat 32 x);rw[BitVec.not_def,BitVec.toNat_xor,BitVec.toNat_allOnes,BitVec.toNat_ofNat,agL zo] at h1;rw[←h1];exact Nat.xor_comm 4294967295 x
theorem yM {l:List Nat} (h:∀x∈l,x<256) (i:Nat):l.getD i 0<256:=by
 have:=tk (w:=8) h i
 exact this
end Go.Proofs.YtcnlmelpnflhnaaGreat
