import Derived.Test.YtcnlmelpnflhnaaGreatE8
import Derived.Test.YtcnlmelpnflhnaaGreatE6
import Derived.Test.YtcnlmelpnflhnaaGreatE7
namespace Go.Proofs.YtcnlmelpnflhnaaGreat
open Go.Eng
set_option linter.unusedSimpArgs false
set_option linter.unusedVariables false
def aD (B:Nat):List Nat→Nat
 | []=>0
 | d::l=>d+B*aD B l
def lX (B:Nat) (n:Nat):List Nat:=if h:n=0∨B<2 then [] else n%B::lX B (n/B)
termination_by n
decreasing_by exact Nat.div_lt_self zo zo
theorem gh (B:Nat):lX B 0=[]:=by unfold lX;simp
theorem lI {B n:Nat} (hB:2≤B) (h:n≠0):lX B n=n%B::lX B (n/B):=by
 conv=>lhs;unfold lX
 rw[dif_neg zo]
theorem Mr {B:Nat} (hB:2≤B) (n:Nat):aD B (lX B n)=n:=by
 induction n using Nat.strongRecOn with
 | _ n ih=>
   by_cases h:n=0
   · subst h;rw[gh];rfl
   · rw[lI hB h]
     show n%B+B*aD B (lX B (n/B))=n;rw[ih _ (Nat.div_lt_self zo zo),akS,ajT]
theorem QY {B:Nat} (hB:2≤B) (n:Nat):∀d∈lX B n,d<B:=by
 induction n using Nat.strongRecOn with
 | _ n ih=>
   by_cases h:n=0
   · subst h;rw[gh];simp
   · rw[lI hB h]
     intro d hd;rcases ajC.1 hd with rfl | hd
     · exact ajI _ zo
     · exact ih _ (Nat.div_lt_self zo zo) d hd
theorem m7 {B n:Nat} (hB:2≤B):lX B n=[]↔n=0:=by
 constructor
 · intro h
   refine Classical.byContradiction fun hn=>?_;rw[lI hB hn] at h
   cases h
 · rintro rfl;exact gh B
theorem fU {B:Nat}:∀{l:List Nat},(∀d∈l,d<B)→aD B l<B^l.length
 | [],_=>by simp[aD]
 | d::l,h=>by
   have ih:=fU (l:=l) (fun x hx=>h x (by simp[hx]));have hd:=h d (by simp);show d+B*aD B l<B^(l.length+1)
   have:B*(aD B l+1)≤B*B^l.length:=akk _ ih
   rw[ajS,ajJ (B^l.length)];rw[aj0,ak6] at this;omega
theorem jq (B:Nat):∀l m:List Nat,aD B (l++m)=aD B l+B^l.length*aD B m
 | [],m=>by simp[aD]
 | d::l,m=>by
   show d+B*aD B (l++m)=d+B*aD B l+B^(l.length+1)*aD B m;rw[jq B l m,ajS,aj0,ajJ (B^l.length) B,ajZ,aj8]
theorem eo (B:Nat) (l:List Nat) (d:Nat):aD B (l++[d])=aD B l+B^l.length*d:=by
 rw[jq];simp[aD]
theorem sw (B n:Nat):aD B (List.replicate n 0)=0:=by
 induction n with
 | zero=>rfl
 | succ n ih=>rw[akF];show 0+B*_=0;rw[ih];simp
theorem Fz {B:Nat} {l:List Nat} {i:Nat} (h:i<l.length):aD B (l.take (i+1))=aD B (l.take i)+B^i*l.getD i 0:=by
 rw[ak7,ajm h];show aD B (l.take i++[l[i]])=_;rw[eo,ajt,akl zo,ajk,ajm h]
 rfl
theorem rK {B:Nat}:∀{l:List Nat} {i x:Nat},i<l.length→aD B (l.set i x)+B^i*l.getD i 0=aD B l+B^i*x
 | d::l,0,x,_=>by simp[aD];omega
 | d::l,i+1,x,h=>by
   have ih:=rK (B:=B) (l:=l) (i:=i) (x:=x) (by simpa using h);simp only[List.set_cons_succ,List.getD_cons_succ];show d+B*aD B (l.set i x)+B^(i+1)*l.getD i 0=d+B*aD B l+B^(i+1)*x;have e1:B^(i+1)*l.getD i 0=B*(B^i*l.getD i 0):=by rw[ajS,ajJ (B^i),ajZ]
   have e2:B^(i+1)*x=B*(B^i*x):=by rw[ajS,ajJ (B^i),ajZ]
   have e3:B*aD B (l.set i x)+B*(B^i*l.getD i 0)=B*aD B l+B*(B^i*x):=by rw[←aj0,←aj0,ih]
   omega
theorem Gc {B:Nat} (hB:2≤B):∀{l:List Nat},(∀d∈l,d<B)→(∀h:l≠ [],l.getLast h≠0)→lX B (aD B l)=l
 | [],_,_=>gh B
 | d::l,h,hl=>by
   have hd:=h d (by simp)
   have ih:=Gc hB (l:=l) (fun x hx=>h x (by simp[hx])) (fun hne=>by
    have:=hl (by simp)
    rwa [List.getLast_cons hne] at this)
   have hv:aD B (d::l)=d+B*aD B l:=rfl
   have hne:aD B (d::l)≠0:=by
    rw[hv];intro h0;have hd0:d=0:=by omega
    have hv0:aD B l=0:=by
     rcases ajW (aD B l) with h | h
     · exact h
     · have:0<B*aD B l:=Nat.mul_pos zo h
       omega
    rw[hv0,gh] at ih;subst ih;exact hl (by simp) hd0
   rw[lI hB hne,hv];have e1:(d+B*aD B l)%B=d:=by rw[Nat.add_mul_mod_self_left,ajL hd]
   have e2:(d+B*aD B l)/B=aD B l:=by rw[alr _ _ zo,akG hd,ajU]
   rw[e1,e2,ih]
theorem Hj {B:Nat} (hB:2≤B) (n:Nat):∀h:lX B n≠ [],(lX B n).getLast h≠0:=by
 induction n using Nat.strongRecOn with
 | _ n ih=>
   intro h;have hn:n≠0:=fun e=>h ((m7 hB).2 e);have e:=lI hB hn
   by_cases hq:n/B=0
   · have e2:lX B n=[n%B]:=by rw[e,hq,gh]
     have:n%B≠0:=by
      have:=ajT n B
      rw[hq] at this;omega
     simpa [e2] using this
   · have hne:lX B (n/B)≠ []:=fun h=>hq ((m7 hB).1 h)
     have:=ih _ (Nat.div_lt_self zo zo) hne
     have e3:(lX B n).getLast h=(lX B (n/B)).getLast hne:=by simp only[e];rw[List.getLast_cons hne]
     rw[e3];exact this
theorem fF {B n k:Nat} (hB:2≤B):(lX B n).length≤k↔n<B^k:=by
 induction k generalizing n with
 | zero=>
   rw[alQ];constructor
   · intro h
     have:=(m7 hB).1 (ajB.1 (by omega:(lX B n).length=0))
     omega
   · intro h
     rw[(m7 hB).2 zo]
     simp
 | succ k ih=>
   by_cases h:n=0
   · subst h
     rw[gh];exact⟨fun _=>ajV zo,fun _=>by simp⟩
   · rw[lI hB h,ajr,Nat.add_le_add_iff_right,ih,ajX zo,ajS]
theorem nj {B m n:Nat} (hB:2≤B) (h:m≤n):(lX B m).length≤(lX B n).length:=
 (fF hB).2 (aj9 h ((fF hB).1 (ajp _)))
theorem fQ {B:Nat} (hB:2≤B) (n:Nat):n<B^(lX B n).length:=(fF hB).1 (ajp _)
theorem iR {B:Nat} (hB:2≤B) (m n:Nat):(lX B (m*n)).length≤(lX B m).length+(lX B n).length:=by
 rw[fF hB,ako];exact Nat.mul_lt_mul'' (fQ hB m) (fQ hB n)
theorem iQ {B:Nat} (hB:2≤B) {m n k:Nat} (h1:(lX B m).length≤k) (h2:(lX B n).length≤k):(lX B (m+n)).length≤k+1:=by
 rw[fF hB] at*
 rw[ajS]
 have:B^k*2≤B^k*B:=akk _ hB
 omega
theorem yG {B:Nat} (hB:2≤B) {l:List Nat} {n:Nat} (hl:∀d∈l,d<B) (hn:n≤l.length) (h0:∀i,n≤i→i<l.length→l.getD i 0=0) (hp:n=0∨l.getD (n-1) 0≠0):l.take n=lX B (aD B l):=by
 have e:aD B l=aD B (l.take n):=by
  have hd:l.drop n=List.replicate (l.length-n) 0:=by
   apply alx (by simp);intro i h1 h2
   have:=h0 (n+i) zo (by simp at h1;omega)
   simp at h1;rw[al3,List.getElem_replicate];simpa [ajk,ajm (show n+i<l.length by omega)] using this
  conv=>lhs;rw[←alj n l,hd,jq,sw]
  simp
 rw[e];refine(Gc hB (fun d hd=>hl d (ajM hd)) fun hne=>?_).symm;rcases hp with rfl | hp
 · simp at hne
 · have hlen:(l.take n).length=n:=by simp;omega
   have hn0:0<n:=by
    rcases ajW n with h | h
    · subst h;simp at hne
    · exact h
   rw[List.getLast_eq_getElem];simp only[hlen,al4];simpa [ajk,ajm (show n-1<l.length by omega)] using hp
theorem cL {B:Nat} {l:List Nat} (hB:0<B) (h:∀d∈l,d<B) (i:Nat):l.getD i 0<B:=by
 rw[ajk]
 cases hx:l[i]? with
 | none=>exact hB
 | some x=>exact h x (aka hx)
theorem eB {B:Nat} {l:List Nat} {i x:Nat} (h:∀d∈l,d<B) (hx:x<B):∀d∈l.set i x,d<B:=fun y hy=>by
 rcases alq hy with h' | h'
 · exact h y h'
 · rw[h'];exact hx
theorem wK {B:Nat} {l m:List Nat} {i:Nat} (hB:0<B) (hl:∀d∈l,d<B) (hm:∀d∈m,d<B) (hlen:l.length=m.length) (hi:i<l.length) (he:l.drop (i+1)=m.drop (i+1)) (hlt:l.getD i 0<m.getD i 0):aD B l<aD B m:=by
 have hs:∀k:List Nat,i<k.length→aD B k=aD B (k.take i)+B^i*(k.getD i 0+B*aD B (k.drop (i+1))):=fun k hk=>by
  conv=>lhs;rw[←alj i k,akm hk,jq]
  have e:k.getD i 0=k[i]:=by simp[ajk,hk]
  rw[ajt,akl zo,e]
  rfl
 rw[hs l hi,hs m zo,he]
 have h1:aD B (l.take i)<B^i:=by
  have:=fU (B:=B) (l:=l.take i) (fun d hd=>hl d (ajM hd))
  rwa [ajt,akl zo] at this
 have h2:B^i*(l.getD i 0+B*aD B (m.drop (i+1))+1)≤B^i*(m.getD i 0+B*aD B (m.drop (i+1))):=akk _ zo;rw[aj0 _ _ 1,ak6] at h2;omega
theorem qu {B a b:Nat} (hB:2≤B) (h:(lX B a).length<(lX B b).length):a<b:=by
 refine Classical.byContradiction fun hn=>?_
 have:=nj hB (show b≤a by omega)
 omega
theorem Qf:nl []=[]:=rfl
attribute [go_sem] Qf
theorem ng (l:List Nat) (n:Nat):(nl l).take n=nl (l.take n):=by simp[nl,als]
theorem dj {B:Nat} (l:List Nat) (i:Nat):aD B (l.take (i+1))=aD B (l.take i)+B^i*l.getD i 0:=by
 rcases akT i l.length with h | h
 · exact Fz h
 · rw[ajy zo,ajy h]
   have:l.getD i 0=0:=by rw[ajk,akP h];rfl
   rw[this];simp
theorem yH {l:List Nat} {i:Nat} (h:l.length≤i):l.getD i 0=0:=by rw[ajk,akP h];rfl
theorem w5 (P B x:Nat):P*(x%B)+P*B*(x/B)=P*x:=by
 rw[ajZ,←aj0,Nat.mod_add_div]
theorem jZ {B:Nat} {l:List Nat} {x:Nat} (h:∀d∈l,d<B) (hx:x<B):∀d∈l++[x],d<B:=fun d hd=>by
 rcases akU.1 hd with h' | h'
 · exact h d h'
 · rw[akf] at h';omega
theorem xo {B c:Nat} {L a b:List Nat} (hv:aD B L+B^L.length*c=aD B (a.take L.length)+aD B (b.take L.length)):
 aD B (L++[(c+a.getD L.length 0+b.getD L.length 0)%B])+B^(L.length+1)*((c+a.getD L.length 0+b.getD L.length 0)/B)=aD B (a.take (L.length+1))+aD B (b.take (L.length+1)):=by
 rw[eo,dj,dj,ajS];have h:=w5 (B^L.length) B (c+a.getD L.length 0+b.getD L.length 0);rw[aj0,aj0] at h;omega
def iI (a b:Nat):Int:=if a<b then-1 else if b<a then 1 else 0
theorem EW {B j c y:Nat} {O:List Nat} (hj:j<O.length):
 aD B (O.set j ((O.getD j 0+c+y)%B))+B^(j+1)*((O.getD j 0+c+y)/B)=aD B O+B^j*c+B^j*y:=by
 have h1:=rK (B:=B) (x:=(O.getD j 0+c+y)%B) hj;have h2:=w5 (B^j) B (O.getD j 0+c+y);rw[aj0,aj0] at h2;rw[ajS];omega
theorem GP {B c x c':Nat} {L a b:List Nat} (hv:aD B (a.take L.length)+B^L.length*c=aD B L+aD B (b.take L.length)) (hx:a.getD L.length 0+B*c'=x+c+b.getD L.length 0):
 aD B (a.take (L.length+1))+B^(L.length+1)*c'=aD B (L++[x])+aD B (b.take (L.length+1)):=by
 rw[eo,dj,dj,ajS];have h:B^L.length*(a.getD L.length 0+B*c')=B^L.length*(x+c+b.getD L.length 0):=by rw[hx]
 rw[aj0,aj0,aj0,←ajZ] at h;omega
open Go.Eng Go.Vx
set_option maxRecDepth 100000
theorem uF {B:List Int} (hB:B.length≤140737488355327):aA Tryz.prog 100 [.row 1 (B.map (ie .u8))] [] (.row 1 (B.map (ie .u8))) []:=by
 refine zF pl Tryz.call100 Tryz.func100 [.tmp 2] fun Q hQ=>?_
 by_cases h:B=[]
 · subst h
   refine Zu ?_;refine jn ?_ ?_
   · refine ae ?_
     exact ak [] hQ
   · refine ae ?_
     exact ak [] hQ
 · have he:(B.map (ie .u8)).isEmpty=false:=by simp[h]
   refine br he ?_;exact ak [] hQ
def dk (B:List Int) (p:Nat):Ob:=.cells [.row 1 (B.map (ie .u8)),.lit (.int .i64 (p:Int))]
attribute [go_sem] dk
theorem ke.get {B:List Int} (h:ke B) (i:Nat):0≤B.getD i 0∧B.getD i 0≤255:=by
 rw[ajk]
 cases hx:B[i]? with
 | none=>simp
 | some x=>exact h x (aka hx)
theorem jM {B:List Int} (hB:B.length≤1099511627776):aA Tryz.prog 47 [.row 1 (B.map (ie .u8))] [] (.ref 0 0 0 0) [some (dk B 0)]:=by
 refine zF pl Tryz.call47 Tryz.func47 [.tmp 2] fun Q hQ=>?_;refine ae ?_;refine zC (uF zo) ?_;exact ak [some 0] hQ
theorem nK {B:List Int} {p:Nat} (hB:B.length≤1099511627776) (hp:p≤8*B.length):aA Tryz.prog 102 [.ref 0 0 0 0] [some (dk B p)] (.lit (.int .i64 ((8*B.length-p:Nat):Int))) [some (dk B p)]:=by
 refine zF Df Tryz.call102 Tryz.func102 [.tmp 2] fun Q hQ=>?_;refine ae ?_;rw[show((8:Int)*(B.length:Int)-(p:Int))=((8*B.length-p:Nat):Int) by omega];exact ak [some 0] hQ
theorem C8 {B:List Int} {p:Nat} (hI:ke B) (hB:B.length≤1099511627776) (hp:p<8*B.length):aA Tryz.prog 103 [.ref 0 0 0 0] [some (dk B p)] (.lit (.int .u64 ((((bitsOf B).getD p false).toNat:Nat):Int))) [some (dk B (p+1))]:=by
 refine zF NI Tryz.call103 Tryz.func103 [.tmp 2] fun Q hQ=>?_;have hx:=hI.get (p/8);have e0:((p:Int)/8).toNat=p/8:=by omega
 have e1:(7-(p:Int)%8).toNat=7-p%8:=by omega
 have hq:0≤B.getD (p/8) 0/2^(7-p%8)%2∧B.getD (p/8) 0/2^(7-p%8)%2≤1:=by
  have:=Int.emod_nonneg (B.getD (p/8) 0/2^(7-p%8)) (show(2:Int)≠0 by decide)
  have:=Int.emod_lt_of_pos (B.getD (p/8) 0/2^(7-p%8)) (show(0:Int)<2 by decide)
  omega
 have hb:=Wt _ (My B p) rfl;rw[rv B p hp] at hQ;rw[←hb] at hQ;refine ej e0 e1 ?_;exact ak [some 0] hQ
theorem bN {B:List Int} {p w:Nat} (hI:ke B) (hB:B.length≤1099511627776) (hw:w≤64) (hp:p+w≤8*B.length):aA Tryz.prog 48 [.ref 0 0 0 0,.lit (.int .i64 (w:Int))] [some (dk B p)] (.tup [.lit (.int .u64 (numOf (((bitsOf B).drop p).take w):Int)),.lit (.int .i64 0)]) [some (dk B (p+w))]:=by
 refine zF pl Tryz.call48 Tryz.func48 [.tmp 4,.tmp 5] fun Q hQ=>?_;refine ae ?_;refine aB (nL) rfl rfl ?_;rw[aju (show(0:Int)≤(w:Int)∧(w:Int)≤64 by omega)];refine zq9 ?_;refine zW [some 0] [] (nK (p:=p) hB zo) ?_
 refine aT (X:=Nat) (st:=fun i=>([(0,.ref 0 0 0 0),(6,.lit (.int .u64 (numOf (((bitsOf B).drop p).take i):Int))),(16,.lit (.int .i64 w)),(17,.lit (.int .i64 (i:Int)))],[some (dk B (p+i))]))
  (inv:=fun i=>i≤w) (m:=fun i=>w-i) 0 [some 0] rfl (by simp(maxSteps:=1000000) (disch:=(first | omega | (simp only[cQ,ajl,ajo,true_and,and_true];(try omega);done) | fail)) only[go_sem,Int.reduceEq,Int.reduceToNat,Nat.reduceAdd,Nat.reduceMul,Nat.reduceEqDiff, ↓reduceIte];simp) (by simp(maxSteps:=1000000) (disch:=(first | omega | (simp only[cQ,ajl,ajo,true_and,and_true];(try omega);done) | fail)) only[go_sem,Int.reduceEq,Int.reduceToNat,Nat.reduceAdd,Nat.reduceMul,Nat.reduceEqDiff, ↓reduceIte];simp[numOf]) (ajH _) ?_
 intro i hi;have hbl:=ba B
 by_cases hil:i<w
 · refine ae ?_
   refine zW [some 0] [] (C8 (p:=p+i) hI hB zo) ?_;refine aH (i+1) [some 0] rfl ?_ ?_ zo zo
   · (simp(disch:=(first | omega | (simp only[cQ,ajl,ajo,true_and,and_true];(try omega);done) | fail)) only[go_sem,Int.reduceEq,Int.reduceToNat,Nat.reduceAdd,Nat.reduceMul,Nat.reduceEqDiff, ↓reduceIte,true_and,and_true,and_self,ajE,ajz,ajp,V.lit.injEq,Value.int.injEq,Value.bool.injEq];try (first | omega | (simp;done) | (simp;omega)))
   · dsimp only
     have hlt:=dU (((bitsOf B).drop p).take i)
     have hlt2:numOf (((bitsOf B).drop p).take i)<9223372036854775808:=aj2 hlt (by
      have:((((bitsOf B).drop p).take i)).length≤63:=by simp;omega
      exact ajv (n:=2) zd this)
     refine Zj ?_;rw[ji zo,qp,CL _ _ hlt2]
     simp
 · refine ae ?_
   obtain rfl:i=w:=by omega
   exact ak [some 0] hQ
def iB (c:Nat):Nat:=if c%2=1 then(c/2)^^^3988292384 else c/2
def bZ (c:Nat):Nat→Nat
 | 0=>c
 | k+1=>iB (bZ c k)
def entry (i:Nat):Nat:=bZ i 8
theorem Hp {c:Nat} (h:c<4294967296):iB c<4294967296:=by
 unfold iB
 split
 · exact alD (n:=32) zo zo
 · omega
theorem gW {c:Nat} (h:c<4294967296):∀k,bZ c k<4294967296
 | 0=>h
 | k+1=>Hp (gW h k)
theorem Hk {i:Nat} (h:i<256):entry i<4294967296:=gW zo 8
def enV (i:Nat):Value:=.int .u32 (entry i:Int)
def mj (i:Nat):List Value:=(List.range i).map enV++List.replicate (256-i) (.int .u32 0)
theorem DY {i:Nat} (h:i≤256):(mj i).length=256:=by
 unfold mj;rw[ajj,ajl,ajo,ajF];omega
theorem Du {i:Nat} (h:i<256):(mj i).set i (enV i)=mj (i+1):=by
 unfold mj;rw[al0,akX,alI _ _ (by simp)];simp only[ajl,ajo,akz,ajK,ajQ,ajq,List.singleton_append];rw[show 256-i=(256-(i+1))+1 by omega,akF]
 rfl
theorem Eo {m:Nat} (h:m<256):(mj 256)[m]? =some (enV m):=by
 unfold mj;rw[ajw (by simpa using h),aj1,alf h]
 rfl
theorem zD:mj 0=List.replicate 256 (.int .u32 0):=by
 unfold mj;rw[List.range_zero,ajQ,akq]
theorem yn (x y:Nat):(x^^^y)%2=(x+y)%2:=by
 have h:=Nat.xor_mod_two_pow (a:=x) (b:=y) (n:=1);rw[show(2:Nat)^1=2 from rfl] at h;rw[h];rcases alL x with hx | hx<;>rcases alL y with hy | hy<;>rw[hx,hy]<;>simp<;>omega
theorem E0 (x y:Nat):iB (x^^^y)=iB x^^^iB y:=by
 have h1:(x^^^y)/2=(x/2)^^^(y/2):=Nat.xor_div_two;have h2:(x^^^y)%2=(x+y)%2:=yn x y;unfold iB;rw[h1,h2];rcases alL x with hx | hx<;>rcases alL y with hy | hy
 · rw[if_neg zo,if_neg zo,if_neg zo]
 · rw[if_pos zo,if_neg zo,if_pos zo,alM]
 · rw[if_pos zo,if_pos zo,if_neg zo,alM,alM,Nat.xor_comm (y/2)]
 · rw[if_neg zo,if_pos zo,if_pos zo]
   rw[Nat.xor_comm (y/2),alM,←alM 3988292384,Nat.xor_self,Nat.zero_xor]
theorem sW (x y:Nat):∀k,bZ (x^^^y) k=bZ x k^^^bZ y k
 | 0=>rfl
 | k+1=>by rw[bZ,bZ,bZ,sW x y k,E0]
theorem E4 (x:Nat):iB (2*x)=x:=by
 unfold iB;rw[if_neg zo];omega
theorem po (x:Nat):∀k,bZ x (k+1)=bZ (iB x) k
 | 0=>rfl
 | k+1=>by rw[bZ,po x k,bZ]
theorem q9 (x:Nat):∀k,bZ (2^k*x) k=x
 | 0=>by simp[bZ]
 | k+1=>by rw[po,ajS,show 2^k*2*x=2*(2^k*x) by rw[ajJ (2^k) 2,ajZ],E4,q9 x k]
theorem LS (c:Nat):c=(c%256)^^^(256*(c/256)):=by
 apply ak3;intro i;rw[Nat.testBit_xor,show(256:Nat)=2^8 from rfl,akN,Nat.testBit_two_pow_mul,ak2]
 by_cases h:i<8
 · have:¬8≤i:=by omega
   simp[h,this]
 · have h':8≤i:=by omega
   simp[h,h',Nat.sub_add_cancel h']
theorem pC {x y:Nat} (hx:x<2147483648) (hy:y<2147483648):x^^^3988292384≠y:=by
 intro h;have h1:=congrArg (fun n=>n.testBit 31) h;simp only[Nat.testBit_xor] at h1;rw[akY (i:=31) (x:=x) hx,akY (i:=31) (x:=y) hy] at h1
 revert h1
 decide
theorem Aj {x y z:Nat} (h:x^^^z=y^^^z):x=y:=by
 have:=congrArg (· ^^^z) h
 simpa [alM] using this
theorem FI {x y:Nat} (hx:x<4294967296) (hy:y<4294967296) (h:iB x=iB y):x=y:=by
 unfold iB at h
 split at h<;>split at h
 · have:=Aj h
   omega
 · exact absurd h (pC zo zo)
 · exact absurd h.symm (pC zo zo)
 · omega
theorem BM {x y:Nat} (hx:x<4294967296) (hy:y<4294967296):∀k,bZ x k=bZ y k→x=y
 | 0,h=>h
 | k+1,h=>BM hx hy k (FI (gW hx k) (gW hy k) h)
def ms (c b:Nat):Nat:=entry ((c%256)^^^b)^^^(c/256)
theorem Vk (c b:Nat):ms c b=bZ (c^^^b) 8:=by
 have h:c^^^b=(c%256^^^b)^^^(256*(c/256)):=by
  conv=>lhs;rw[LS c]
  rw[alM,Nat.xor_comm _ b,←alM]
 rw[h,sW];unfold ms entry
 congr 1
 exact(q9 (c/256) 8).symm
theorem WM {c b:Nat} (hc:c<4294967296) (hb:b<256):ms c b<4294967296:=by
 rw[Vk];exact gW (alD (n:=32) hc zo) 8
def oP (c:Nat) (l:List Nat):Nat:=l.foldl ms c
theorem Iw (c:Nat) (l m:List Nat):oP c (l++m)=oP (oP c l) m:=by simp[oP]
theorem De:∀{l:List Nat} {c:Nat},(∀x∈l,x<256)→c<4294967296→oP c l<4294967296
 | [],c,_,h=>h
 | b::l,c,hl,h=>De (l:=l) (fun x hx=>hl x (by simp[hx])) (WM h (hl b (by simp)))
def ij (l:List Nat):Nat:=4294967295-oP 4294967295 l
theorem Ce (l:List Nat):ij l<4294967296:=by unfold ij;omega
def leN:List Nat→Nat
 | []=>0
 | b::l=>b^^^(256*leN l)
theorem Ad (c j:Nat):∀k,bZ (bZ c j) k=bZ c (j+k)
 | 0=>rfl
 | k+1=>by rw[bZ,Ad c j k];rfl
def jd (s:Nat):List Nat:=[s/16777216%256,s/65536%256,s/256%256,s%256]
theorem Lz (s:Nat):∀x∈jd s,x<256:=fun x hx=>by
 simp only[jd,ajC,aj5,or_false] at hx;omega
def bV (l:List Nat):List Nat:=l++jd (ij l)
theorem g9 (l:List Nat):(bV l).length=l.length+4:=by simp[bV,jd]
theorem Gq {l:List Nat} (h:∀x∈l,x<256):∀x∈bV l,x<256:=fun x hx=>by
 rcases akU.1 hx with h' | h'
 · exact h x h'
 · exact Lz _ x h'
theorem BR (l:List Nat):(bV l).take l.length=l:=akv rfl
theorem GX {x:Nat} (h:x<4294967296):4294967295-x=x^^^4294967295:=by
 have h1:=BitVec.toNat_not (x:=BitVec.ofNat 32 x);rw[BitVec.not_def,BitVec.toNat_xor,BitVec.toNat_allOnes,BitVec.toNat_ofNat,ajL zo] at h1;rw[←h1];exact Nat.xor_comm 4294967295 x
theorem Bb {l:List Nat} (h:∀x∈l,x<256) (i:Nat):l.getD i 0<256:=by
 have:=vi (w:=8) h i
 exact this
end Go.Proofs.YtcnlmelpnflhnaaGreat
