import Derived.Test.YtcnlmelpnflhnaaGreatN1
import Derived.Test.YtcnlmelpnflhnaaGreatE8
namespace Go.Proofs.YtcnlmelpnflhnaaGreat
open Go.Eng Go.Vx
set_option linter.unusedSimpArgs false
set_option linter.unusedVariables false
set_option maxRecDepth 100000
def i5 (L:List Bool):Nat→Nat→Bool×Int×Nat×Bool
 | 0,p=>(true,0,p,false)
 | k+1,p=>if p<L.length then(if L.getD p false then i5 L k (p+1) else(false,0,p+1,false)) else(false,8,L.length,true)
theorem qf (L:List Bool) (p:Nat):i5 L 0 p=(true,0,p,false):=by unfold i5;rfl
theorem qy (L:List Bool) (k p:Nat):i5 L (k+1) p=if p<L.length then(if L.getD p false then i5 L k (p+1) else(false,0,p+1,false)) else(false,8,L.length,true):=by conv=>lhs;unfold i5
theorem MY {L:List Bool} {p K:Nat} {k:Int} (hL:L.length≤1048576) (hp:p≤L.length) (hk:max 0 k=(K:Int)) (hK:K<9223372036854775807):aA Tryz.prog 158 [.ref 0 0 0 0,.lit (.int .i64 k)] [some (bt L p false)]
 (.tup [.lit (.bool (i5 L K p).1),.lit (.int .i64 (i5 L K p).2.1)]) [some (bt L (i5 L K p).2.2.1 (i5 L K p).2.2.2)]:=by
 refine zF pl Tryz.call158 Tryz.func158 [.tmp 4,.tmp 5] fun Q hQ=>?_
 simp(maxSteps:=1000000) (disch:=(first | omega | (simp only[cQ,ajl,ajo,true_and,and_true];(try omega);done) | fail)) only[go_sem,hk,Int.reduceEq,Int.reduceToNat,Nat.reduceAdd,Nat.reduceMul,Nat.reduceEqDiff, ↓reduceIte]
 refine aR (X:=Nat) (st:=fun i=>([(0,.ref 0 0 0 0),(9,.lit (.int .i64 (K:Int))),(10,.lit (.int .i64 (i:Int)))],[some (bt L (p+i) false)]))
  (inv:=fun i=>i≤K∧p+i≤L.length∧i5 L K p=i5 L (K-i) (p+i)) (m:=fun i=>K-i) 0 [some 0] ⟨by omega,by omega,rfl⟩ ?_
 rintro i ⟨hi,hpi,hv⟩
 by_cases hiK:i<K
 · obtain ⟨n,hn⟩:∃n,K-i=n+1:=⟨K-i-1,by omega⟩
   rw[hn,qy] at hv
   by_cases hin:p+i<L.length
   · rw[if_pos hin] at hv
     refine ae ?_;refine aF [some 0] [] (pQ (L:=L) (p:=p+i) hL hin) ?_
     cases hbit:L.getD (p+i) false with
     | true=>
       rw[hbit] at hv;refine ae ?_;refine aH (i+1) [some 0] rfl (by dsimp only;rw[←Nat.add_assoc];exact zM) zM ⟨by omega,by omega,?_⟩ zo;rw[hv,if_pos rfl,show K-(i+1)=n by omega,Nat.add_assoc]
     | false=>
       rw[hbit,if_neg (by simp)] at hv;rw[hv] at hQ;exact zE [some 0] hQ
   · rw[if_neg hin] at hv
     have hqe:p+i=L.length:=by omega
     rw[hv] at hQ;rw[hqe];refine ae ?_;refine zW [some 0] [] (gw (L:=L) (p:=L.length) (d:=false) hL (.inr rfl)) ?_;exact ak [some 0] hQ
 · obtain rfl:i=K:=by omega
   rw[akz,qf] at hv;rw[hv] at hQ;exact zE [some 0] hQ
def ox (L:List Bool) (D:Nat):Nat→Nat→Nat→Bool×Int×Nat×Bool
 | 0,_,_=>(false,8,L.length,true)
 | f+1,r,p=>if p<L.length then
    (if L.getD p false=decide (D≤r+r)∧(if D≤r+r then r+r-D else r+r)≠0 then ox L D f (if D≤r+r then r+r-D else r+r) (p+1) else(decide (D≤r+r)&&!L.getD p false,0,p+1,false))
    else(false,8,L.length,true)
theorem i7 (L:List Bool) (D f r p:Nat):ox L D (f+1) r p=if p<L.length then
 (if L.getD p false=decide (D≤r+r)∧(if D≤r+r then r+r-D else r+r)≠0 then ox L D f (if D≤r+r then r+r-D else r+r) (p+1) else(decide (D≤r+r)&&!L.getD p false,0,p+1,false))
 else(false,8,L.length,true):=by conv=>lhs;unfold ox
def fm (L:List Bool) (P D p:Nat):Bool×Int×Nat×Bool:=
 if D=0∨D<P then(false,2,p,false) else if P=0 then(false,0,p,false) else if P=D then(true,0,p,false) else ox L D (L.length+1-p) P p
theorem pT {P D:Nat} (hP:(wg P).length≤1000000) (hD1:(wg D).length≤1000000):aA Tryz.prog 201 [NV P,NV D] [] (.lit (.bool (decide (¬(D=0∨D<P))))) []:=by
 refine zF pl Tryz.call201 Tryz.func201 [.tmp 4] fun Q hQ=>?_
 by_cases hz:D=0
 · rw[ajn (fun h=>h (.inl hz))] at hQ
   refine ae ?_;refine aB (dM (n:=D) zo) rfl rfl ?_;rw[aju hz];exact zE [] hQ
 · refine ae ?_
   refine aB (dM (n:=D) zo) rfl rfl ?_;rw[ajn hz];refine ae ?_;refine aB (fq (a:=P) (b:=D) zo zo) rfl rfl ?_
   have e:decide (iI P D≤0)=decide (¬(D=0∨D<P)):=by
    have:iI P D≤0↔¬(D=0∨D<P):=by unfold iI;split<;>(try split)<;>omega
    simp only[this]
   refine br e ?_;exact ak [] hQ
set_option maxHeartbeats 2000000 in
theorem xq {L:List Bool} {P D p:Nat} (hL:L.length≤1048576) (hp:p≤L.length) (hP:(wg P).length≤500000) (hD1:(wg D).length≤500000):aA Tryz.prog 189 [.ref 0 0 0 0,NV P,NV D] [some (bt L p false)]
 (.tup [.lit (.bool (fm L P D p).1),.lit (.int .i64 (fm L P D p).2.1)]) [some (bt L (fm L P D p).2.2.1 (fm L P D p).2.2.2)]:=by
 refine zF pl Tryz.call189 Tryz.func189 [.tmp 6,.tmp 7] fun Q hQ=>?_;unfold fm at hQ;refine ae ?_;refine aB (pT (P:=P) (D:=D) zo zo) rfl rfl ?_
 by_cases h1:D=0∨D<P
 · rw[ajn (fun h=>h h1)]
   rw[if_pos h1] at hQ;exact zE [some 0] hQ
 · rw[aju h1]
   rw[if_neg h1] at hQ;refine ae ?_;refine aB (dM (n:=P) zo) rfl rfl ?_
   by_cases h2:P=0
   · rw[aju h2]
     rw[if_pos h2] at hQ;exact zE [some 0] hQ
   · rw[ajn h2]
     rw[if_neg h2] at hQ;refine ae ?_
     refine aR (X:=Nat×Nat) (st:=fun z=>([(0,.ref 0 0 0 0),(4,.ref 1 0 0 0),(5,.ref 2 0 0 0),(8,.ref 3 0 0 0)],[some (bt L z.2 false),some (.cells [.row 1 ((nl (wg P)).map (ie .u64))]),some (.cells [.row 1 ((nl (wg D)).map (ie .u64))]),some (.cells [.row 1 ((nl (wg z.1)).map (ie .u64))])]))
      (inv:=fun z=>z.2≤L.length∧0<z.1∧z.1≤D∧(if P=D then(true,0,p,false) else ox L D (L.length+1-p) P p)=(if z.1=D then(true,0,z.2,false) else ox L D (L.length+1-z.2) z.1 z.2)) (m:=fun z=>L.length-z.2) (P,p) [some 0,some 1,some 2,some 3] ⟨hp,by simp only;omega,by simp only;omega,rfl⟩ ?_
     rintro ⟨r,q⟩ ⟨hq,hr0,hrD,hv⟩;simp only at hq hr0 hrD hv ⊢;rw[hv] at hQ;have hrl:=df hrD;refine ae ?_;refine aB (fq (a:=r) (b:=D) zo zo) rfl rfl ?_
     by_cases h3:r=D
     · rw[if_pos h3] at hQ
       have hc:¬iI r D<0:=fun h=>by have:=fi.1 h;omega
       refine br (ajn hc) ?_;exact ak [some 0] hQ
     · rw[if_neg h3] at hQ hv
       have hc:=fi.2 (show r<D by omega);obtain ⟨f,hf⟩:∃f,L.length+1-q=f+1:=⟨L.length-q,by omega⟩;rw[hf,i7] at hQ hv;have hrr:(wg (r+r)).length≤(wg D).length+1:=iQ (B:=18446744073709551616) zd hrl hrl
       by_cases hin:q<L.length
       · rw[if_pos hin] at hQ hv
         refine br (aju hc) ?_;refine zW [some 0] [] (pQ (L:=L) (p:=q) hL hin) ?_;refine zC (gS (a:=r) (b:=r) zo zo) ?_
         by_cases hd:D≤r+r
         · rw[if_pos hd,aju hd] at hQ hv
           refine aB (jB (a:=r+r) (b:=D) hd zo) rfl rfl ?_;have hsl:=df (show r+r-D≤r+r by omega)
           cases hbit:L.getD q false with
           | false=>
             rw[hbit,if_neg (by simp)] at hQ;exact zE [some 0] hQ
           | true=>
             refine ae ?_;refine aB (dM (n:=r+r-D) zo) rfl rfl ?_
             by_cases hz:r+r-D=0
             · rw[hbit,if_neg (fun h=>h.2 hz)] at hQ
               rw[aju hz];exact zE [some 0] hQ
             · rw[hbit,if_pos (show true=true∧r+r-D≠0 from⟨rfl,hz⟩)] at hv
               rw[ajn hz];refine ae ?_;refine aM (r+r-D,q+1) [some 0,some 1,some 2,some 5] ⟨by simp only;omega,by simp only;omega,by simp only;omega,?_⟩ (by simp only;omega);simp only;rw[hv,if_neg (show¬r+r-D=D by omega),show L.length+1-(q+1)=f by omega]
         · rw[if_neg hd,ajn hd] at hQ hv
           refine aB (ry (a:=r+r) (b:=D) zo zo zo) rfl rfl ?_
           cases hbit:L.getD q false with
           | true=>
             rw[hbit,if_neg (by simp)] at hQ;exact zE [some 0] hQ
           | false=>
             have hz:r+r≠0:=by omega
             rw[hbit,if_pos (show false=false∧r+r≠0 from⟨rfl,hz⟩)] at hv;refine ae ?_;refine aB (dM (n:=r+r) zo) rfl rfl ?_;rw[ajn hz];refine ae ?_;refine aM (r+r,q+1) [some 0,some 1,some 2,some 5] ⟨by simp only;omega,by simp only;omega,by simp only;omega,?_⟩ (by simp only;omega);simp only;rw[hv,if_neg (show¬r+r=D by omega),show L.length+1-(q+1)=f by omega]
       · rw[if_neg hin] at hQ
         have hqe:q=L.length:=by omega
         rw[hqe];refine br (aju hc) ?_;refine zW [some 0] [] (gw (L:=L) (p:=L.length) (d:=false) hL (.inr rfl)) ?_;exact ak [some 0] hQ
def dx (L:List Bool) (n w:Nat):Nat→Nat→Nat×Int×Nat×Bool
 | 0,p=>(0,8,L.length,true)
 | f+1,p=>if p+w≤L.length then(if numOf ((L.drop p).take w)<n then(numOf ((L.drop p).take w),0,p+w,false) else dx L n w f (p+w)) else(0,8,L.length,true)
def cg (L:List Bool) (n p:Nat):Nat×Int×Nat×Bool:=dx L n (bl (n-1)) (L.length+1-p) p
theorem yS {L:List Bool} {n w:Nat} (hw:0<w):∀f q,L.length+1-q≤f→dx L n w f q=dx L n w (L.length+1-q) q:=by
 intro f
 induction f using Nat.strongRecOn with
 | _ f ih=>
   intro q h
   by_cases hq:q+w≤L.length
   · obtain ⟨g,hg⟩:∃g,L.length+1-q=g+1:=⟨L.length-q,by omega⟩
     obtain ⟨k,rfl⟩:∃k,f=k+1:=⟨f-1,by omega⟩;rw[hg];unfold dx;rw[if_pos hq,if_pos hq]
     split
     · rfl
     · rw[ih k zo (q+w) zo,ih g zo (q+w) zo]
   · have e:∀k,dx L n w k q=(0,8,L.length,true):=fun k=>by
      cases k with
      | zero=>rfl
      | succ k=>unfold dx;rw[if_neg hq]
     rw[e,e]
theorem Gj {L:List Bool} {n p:Nat} (hL:L.length≤1048576) (hp:p≤L.length) (hn:0<n) (hn2:n<18446744073709551616):aA Tryz.prog 77 [.ref 0 0 0 0,.lit (.int .u64 n)] [some (bt L p false)]
 (.tup [.lit (.int .u64 ((cg L n p).1:Int)),.lit (.int .i64 (cg L n p).2.1)]) [some (bt L (cg L n p).2.2.1 (cg L n p).2.2.2)]:=by
 refine zF pl Tryz.call77 Tryz.func77 [.tmp 4,.tmp 5] fun Q hQ=>?_;have hn1:(n:Int)-1=((n-1:Nat):Int):=by omega
 have hw:=bP (n:=n-1) (k:=64) zo;have hnw:=jY (n-1);unfold cg at hQ;generalize hwd:bl (n-1)=w at*
 refine br hn1 ?_;refine zC (hwd▸kZ (n:=n-1) zo) ?_
 refine aR (X:=Nat) (st:=fun q=>([(0,.ref 0 0 0 0),(1,.lit (.int .u64 (n:Int))),(6,.lit (.int .i64 (w:Int)))],[some (bt L q false)]))
  (inv:=fun q=>q≤L.length∧dx L n w (L.length+1-p) p=dx L n w (L.length+1-q) q) (m:=fun q=>L.length-q) p [some 0] ⟨hp,rfl⟩ ?_
 rintro q ⟨hq,hv⟩;obtain ⟨f,hf⟩:∃f,L.length+1-q=f+1:=⟨L.length-q,by omega⟩;rw[hf] at hv;rw[hv] at hQ;refine ae ?_
 refine aT (X:=Nat) (st:=fun i=>([(0,.ref 0 0 0 0),(1,.lit (.int .u64 (n:Int))),(6,.lit (.int .i64 (w:Int))),(7,.lit (.int .u64 ((numOf ((L.drop q).take i):Nat):Int))),(15,.lit (.int .i64 (w:Int))),(16,.lit (.int .i64 (i:Int)))],[some (bt L (q+i) false)]))
  (inv:=fun i=>i≤w∧q+i≤L.length) (m:=fun i=>w-i) 0 [some 0] rfl zM (by simp only[akj,tX];exact zM) ⟨by omega,by omega⟩ ?_
 rintro i ⟨hi,hqi⟩
 by_cases hiw:i<w
 · by_cases hin:q+i<L.length
   · have hts:=ji (l:=L) (a:=q) (w:=i) hin
     have hns:=qp ((L.drop q).take i) (L.getD (q+i) false);rw[←hts] at hns;have hnl:=dU ((L.drop q).take i);have hln:((L.drop q).take i).length=i:=by simp;omega
     rw[hln] at hnl;have hp2:2^i≤2^63:=ajv zd zo;have hxl:numOf ((L.drop q).take i)<9223372036854775808:=by omega
     generalize numOf ((L.drop q).take i)=x at*
     have hb:cv .or .u64 ((x:Int)*2) 1=((2*x+1:Nat):Int):=CL x true hxl;refine ae ?_;refine aF [some 0] [] (pQ (L:=L) (p:=q+i) hL hin) ?_
     cases hbit:L.getD (q+i) false with
     | true=>
       rw[hbit] at hns;simp only[Bool.toNat_true] at hns;refine br hb ?_;refine aH (i+1) [some 0] rfl (by dsimp only;rw[←Nat.add_assoc];exact zM) (by dsimp only;rw[hns];exact zM) ⟨by omega,by omega⟩ zo
     | false=>
       rw[hbit] at hns;simp only[Bool.toNat_false,Nat.add_zero] at hns;refine ae ?_;refine aH (i+1) [some 0] rfl (by dsimp only;rw[←Nat.add_assoc];exact zM) (by dsimp only;rw[hns];exact zM) ⟨by omega,by omega⟩ zo
   · have hqe:q+i=L.length:=by omega
     rw[show dx L n w (f+1) q=(0,8,L.length,true) by unfold dx;rw[if_neg zo]] at hQ;rw[hqe];refine ae ?_;refine zW [some 0] [] (gw (L:=L) (p:=L.length) (d:=false) hL (.inr rfl)) ?_;exact ak [some 0] hQ
 · obtain rfl:i=w:=by omega
   have hnl:=dU ((L.drop q).take i);have hln:((L.drop q).take i).length=i:=by simp;omega
   rw[hln] at hnl;have hp2:2^i≤2^64:=ajv zd zo
   have hb:dx L n i (f+1) q=if numOf ((L.drop q).take i)<n then(numOf ((L.drop q).take i),0,q+i,false) else dx L n i f (q+i):=by
    conv=>lhs;unfold dx
    rw[if_pos hqi]
   by_cases hx:numOf ((L.drop q).take i)<n
   · rw[hb,if_pos hx] at hQ
     exact zE [some 0] hQ
   · rw[if_neg hx] at hb
     have hi0:0<i:=by
      rcases ajW i with h | h
      · subst h
        rw[alQ] at hnl;omega
      · exact h
     refine ae ?_;refine aM (q+i) [some 0] ⟨hqi,?_⟩ zo;rw[hv,hb];exact yS hi0 f (q+i) zo
def cT:List Bool→Nat
 | []=>0
 | b::l=>b.toNat+cT l
theorem Dn (b:Bool):∀l,cT (l++[b])=cT l+b.toNat
 | []=>by simp[cT]
 | x::l=>by
   show x.toNat+cT (l++[b])=x.toNat+cT l+b.toNat;rw[Dn b l];omega
theorem I1:∀l,cT l≤l.length
 | []=>by simp[cT]
 | x::l=>by
   have:=I1 l
   show x.toNat+cT l≤l.length+1
   cases x<;>simp<;>omega
def BJ (L:List Bool) (Y p:Nat):Nat×Int×Nat×Bool:=if p+Y≤L.length then(cT ((L.drop p).take Y),0,p+Y,false) else(0,8,L.length,true)
theorem HE {L:List Bool} {p Y:Nat} {y:Int} (hL:L.length≤1048576) (hp:p≤L.length) (hy:max 0 y=(Y:Int)) (hY:Y<9223372036854775807):aA Tryz.prog 194 [.ref 0 0 0 0,.lit (.int .i64 y)] [some (bt L p false)]
 (.tup [.lit (.int .i64 ((BJ L Y p).1:Int)),.lit (.int .i64 (BJ L Y p).2.1)]) [some (bt L (BJ L Y p).2.2.1 (BJ L Y p).2.2.2)]:=by
 refine zF pl Tryz.call194 Tryz.func194 [.tmp 4,.tmp 5] fun Q hQ=>?_;unfold BJ at hQ;refine br hy ?_
 refine aT (X:=Nat) (st:=fun i=>([(0,.ref 0 0 0 0),(6,.lit (.int .i64 ((cT ((L.drop p).take i):Nat):Int))),(10,.lit (.int .i64 (Y:Int))),(11,.lit (.int .i64 (i:Int)))],[some (bt L (p+i) false)]))
  (inv:=fun i=>i≤Y∧p+i≤L.length) (m:=fun i=>Y-i) 0 [some 0] rfl zM (by simp only[akj,cT];exact zM) ⟨by omega,by omega⟩ ?_
 rintro i ⟨hi,hpi⟩
 by_cases hiY:i<Y
 · by_cases hin:p+i<L.length
   · have hts:=ji (l:=L) (a:=p) (w:=i) hin
     have hcs:=Dn (L.getD (p+i) false) ((L.drop p).take i);rw[←hts] at hcs;have hcl:=I1 ((L.drop p).take i);have hln:((L.drop p).take i).length=i:=by simp;omega
     rw[hln] at hcl;generalize cT ((L.drop p).take i)=c at*
     refine ae ?_;refine aF [some 0] [] (pQ (L:=L) (p:=p+i) hL hin) ?_
     cases hbit:L.getD (p+i) false with
     | true=>
       rw[hbit] at hcs;simp only[Bool.toNat_true] at hcs;refine ae ?_;refine aH (i+1) [some 0] rfl (by dsimp only;rw[←Nat.add_assoc];exact zM) (by dsimp only;rw[hcs];exact zM) ⟨by omega,by omega⟩ zo
     | false=>
       rw[hbit] at hcs;simp only[Bool.toNat_false,Nat.add_zero] at hcs;refine ae ?_;refine aH (i+1) [some 0] rfl (by dsimp only;rw[←Nat.add_assoc];exact zM) (by dsimp only;rw[hcs];exact zM) ⟨by omega,by omega⟩ zo
   · have hqe:p+i=L.length:=by omega
     rw[if_neg zo] at hQ;rw[hqe];refine ae ?_;refine zW [some 0] [] (gw (L:=L) (p:=L.length) (d:=false) hL (.inr rfl)) ?_;exact ak [some 0] hQ
 · obtain rfl:i=Y:=by omega
   rw[if_pos hpi] at hQ;exact zE [some 0] hQ
end Go.Proofs.YtcnlmelpnflhnaaGreat
