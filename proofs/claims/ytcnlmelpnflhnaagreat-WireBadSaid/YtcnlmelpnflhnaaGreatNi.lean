import Derived.Test.YtcnlmelpnflhnaaGreatPk
import Derived.Test.YtcnlmelpnflhnaaGreatE8
import Derived.Test.YtcnlmelpnflhnaaGreatE6
import Derived.Test.YtcnlmelpnflhnaaGreatD3
import Derived.Test.YtcnlmelpnflhnaaGreatRa
namespace Go.Proofs.YtcnlmelpnflhnaaGreat
open Go.Eng Go.Vx
set_option linter.unusedSimpArgs false
set_option linter.unusedVariables false
set_option maxRecDepth 100000
theorem AN {x y:Rat}:((x.num*(y.den:Int):Int):Rat)/((y.num*(x.den:Int):Int):Rat)=x/y:=by
 rw[←Rat.divInt_eq_div,Rat.div_def x y,Rat.inv_def]
 conv=>rhs;rw[←Rat.num_divInt_den x]
 rw[Rat.divInt_mul_divInt,Int.mul_comm y.num]
theorem Bx {y:Rat} (h:y≠0):y.num≠0:=fun e=>h (Rat.num_eq_zero.1 e)
theorem R5 {k l:Nat} {x y:Rat} (hk:1≤k+l) (hx:RS k x) (hy:RS l y):RS (k+l) (x/y):=by
 by_cases h:y=0
 · subst h
   have e:x/0=0:=by rw[Rat.div_def,Rat.inv_zero,Rat.mul_zero]
   rw[e];exact⟨by rw[show(0:Rat).num.natAbs=0 from rfl,eU];exact akF _,akE (di zd) hk⟩
 · have hn0:y.num*(x.den:Int)≠0:=Int.mul_ne_zero (Bx h) (by have:=x.den_nz;omega)
   rw[←AN,←qt hn0];refine PA zo ?_ ?_
   · rw[kP]
     exact gw hx.1 (by simp only[ak9];exact hy.2)
   · have:=gw (x:=y.num) (y:=(x.den:Int)) hy.1 (by simp only[ak9];exact hx.2)
     omega
theorem F7 {x:Rat} (hx:RS 400000 x):aA Tryz.prog 167 [RV x] [] (WV x.floor) []:=by
 obtain ⟨hx1,hx2⟩:=hx;have hd:=Ot (x:=x.num) (y:=(x.den:Int)) (by have:=x.den_nz;omega) zo (by simp only[ak9];omega);rw[←Rat.floor_def] at hd;refine zF PQ Tryz.call167 Tryz.func167 [.cell 2 232] fun Q hQ=>?_;refine ae ?_;refine zC (kF (x:=x) zo) ?_;refine zC hd ?_;exact ai [] hQ
theorem Ex {B:List Bool} (hB:B.length≤140737488355327):aA Tryz.prog 60 [.row 1 (B.map be)] [] (.row 1 (B.map be)) []:=by
 refine zF pl Tryz.call60 Tryz.func60 [.tmp 2] fun Q hQ=>?_
 by_cases h:B=[]
 · subst h
   refine Ya ?_;refine jC ?_ ?_
   · refine ae ?_
     exact ai [] hQ
   · refine ae ?_
     exact ai [] hQ
 · have he:(B.map be).isEmpty=false:=by simp[h]
   refine bg he ?_;exact ai [] hQ
def bm (L:List Bool) (p:Nat) (d:Bool):Ob:=.cells [.I p,.lit (.bool d),.row 1 (L.map be)]
def tpP (L:List Bool) (p:Nat) (d:Bool):V:=.rref 3 [[.I p,.lit (.bool d),.row 1 (L.map be)]] 0 0
attribute [go_sem] bm tpP
theorem oh {L:List Bool} (hL:L.length≤1048576):aA Tryz.prog 15 [.row 1 (L.map be)] [] (.ref 0 0 0 0) [some (bm L 0 false)]:=by
 refine zF pl Tryz.call15 Tryz.func15 [.tmp 2] fun Q hQ=>?_;have hm:min (L.length:Int) 1048576=(L.length:Int):=by omega
 refine afh hm ?_;refine zC (Ex (B:=L) zo) ?_;exact ai [some 0] hQ
theorem qk {L:List Bool} {p:Nat} (hL:L.length≤1048576) (hp:p<L.length):aA Tryz.prog 142 [.ref 0 0 0 0] [some (bm L p false)] (.tup [.lit (.bool (L.getD p false)),.I 0]) [some (bm L (p+1) false)]:=by
 refine zF DU Tryz.call142 Tryz.func142 [.tmp 2,.tmp 3] fun Q hQ=>?_;have hp1:(((p:Int)+1)-1).toNat=p:=by omega
 refine bg hp1 ?_;exact ai [some 0] hQ
theorem gJ {L:List Bool} {p:Nat} {d:Bool} (hL:L.length≤1048576) (h:d=true∨p=L.length):aA Tryz.prog 142 [.ref 0 0 0 0] [some (bm L p d)] (.tup [.lit (.bool false),.I 8]) [some (bm L p true)]:=by
 refine zF DU Tryz.call142 Tryz.func142 [.tmp 2,.tmp 3] fun Q hQ=>?_
 cases d with
 | true=>
   exact zE [some 0] hQ
 | false=>
   obtain rfl:p=L.length:=by simpa using h
   exact zE [some 0] hQ
theorem Ml {n M:Nat} {m:Int} (hm:max 0 m=(M:Int)) (hM:M≤9223372036854775807) (hn:(wg n).length≤1000000):aA Tryz.prog 171 [NV n,.I m] [] (.I ((min n M:Nat):Int)) []:=by
 refine zF pl Tryz.call171 Tryz.func171 [.tmp 4] fun Q hQ=>?_;have hnl:=av (wg n)
 by_cases h1:1<(wg n).length
 · have hgt:18446744073709551616≤n:=by
    refine Classical.byContradiction fun h=>?_
    have:=di (n:=n) zo
    omega
   rw[show min n M=M by omega] at hQ;have hc:decide ((1:Int)<((nl (wg n)).length:Int))=true:=aks zo
   simp(maxSteps:=1000000) (disch:=(first | omega | (simp only[cS,aki,akj,true_and,and_true];(try omega);done) | fail)) only[go_sem,hm,hc,Int.reduceEq,Int.reduceToNat,Nat.reduceAdd,Nat.reduceMul,Nat.reduceEqDiff, ↓reduceIte]
   exact ai [] hQ
 · have hc:decide ((1:Int)<((nl (wg n)).length:Int))=false:=akg zo
   by_cases h0:n=0
   · subst h0
     rw[eU] at hnl;rw[show min 0 M=0 by omega] at hQ;have hz:=dS (n:=0) (by rw[eU];decide);rw[qj] at hz;refine eo hm @eU ?_;refine zC hz ?_;exact ai [] hQ
   · have h2:(wg n).length=1:=by have:=vr h0;omega
     have hw:=vk h2;have hlt:n<18446744073709551616:=fe n n (by rw[hw];simp);have hn1:nl (wg n)=[(n:Int)]:=by rw[hw];rfl
     by_cases hle:M<n
     · rw[show min n M=M by omega] at hQ
       refine eo hm hn1 ?_;exact ai [] hQ
     · rw[show min n M=n by omega] at hQ
       have hz:=dS (n:=n) zo;rw[akg h0] at hz;unfold NV at hz;rw[hn1] at hz;refine eo hm hn1 ?_;refine zC hz ?_;exact ai [] hQ
def dC (L:List Bool) (n w:Nat):Nat→Nat→Nat×Int×Nat×Bool
 | 0,p=>(0,8,L.length,true)
 | f+1,p=>if p+w≤L.length then(if numOf ((L.drop p).take w)<n then(numOf ((L.drop p).take w),0,p+w,false) else dC L n w f (p+w)) else(0,8,L.length,true)
def cq (L:List Bool) (n p:Nat):Nat×Int×Nat×Bool:=dC L n (bl (n-1)) (L.length+1-p) p
theorem zi {L:List Bool} {n w:Nat} (hw:0<w):∀f q,L.length+1-q≤f→dC L n w f q=dC L n w (L.length+1-q) q:=by
 intro f
 induction f using Nat.strongRecOn with
 | _ f ih=>
   intro q h
   by_cases hq:q+w≤L.length
   · obtain ⟨g,hg⟩:∃g,L.length+1-q=g+1:=⟨L.length-q,by omega⟩
     obtain ⟨k,rfl⟩:∃k,f=k+1:=⟨f-1,by omega⟩;rw[hg];unfold dC;rw[if_pos hq,if_pos hq]
     split
     · rfl
     · rw[ih k zo (q+w) zo,ih g zo (q+w) zo]
   · have e:∀k,dC L n w k q=(0,8,L.length,true):=fun k=>by
      cases k with
      | zero=>rfl
      | succ k=>unfold dC;rw[if_neg hq]
     rw[e,e]
theorem G9 {L:List Bool} {n p:Nat} (hL:L.length≤1048576) (hp:p≤L.length) (hn:0<n) (hn2:n<18446744073709551616):aA Tryz.prog 77 [.ref 0 0 0 0,.lit (.int .u64 n)] [some (bm L p false)]
 (.tup [.lit (.int .u64 ((cq L n p).1:Int)),.I (cq L n p).2.1]) [some (bm L (cq L n p).2.2.1 (cq L n p).2.2.2)]:=by
 refine zF pl Tryz.call77 Tryz.func77 [.tmp 4,.tmp 5] fun Q hQ=>?_;have hn1:(n:Int)-1=((n-1:Nat):Int):=by omega
 have hw:=bI (n:=n-1) (k:=64) zo;have hnw:=ko (n-1);unfold cq at hQ;generalize hwd:bl (n-1)=w at*
 refine bg hn1 ?_;refine zC (hwd▸lu (n:=n-1) zo) ?_
 refine aU (X:=Nat) (st:=fun q=>([(0,.ref 0 0 0 0),(1,.lit (.int .u64 n)),(6,.I w)],[some (bm L q false)]))
  (inv:=fun q=>q≤L.length∧dC L n w (L.length+1-p) p=dC L n w (L.length+1-q) q) (m:=fun q=>L.length-q) p [some 0] ⟨hp,rfl⟩ ?_
 rintro q ⟨hq,hv⟩;obtain ⟨f,hf⟩:∃f,L.length+1-q=f+1:=⟨L.length-q,by omega⟩;rw[hf] at hv;rw[hv] at hQ;refine ae ?_
 refine aW (X:=Nat) (st:=fun i=>([(0,.ref 0 0 0 0),(1,.lit (.int .u64 n)),(6,.I w),(7,.lit (.int .u64 ((numOf ((L.drop q).take i):Nat):Int))),(15,.I w),(16,.I i)],[some (bm L (q+i) false)]))
  (inv:=fun i=>i≤w∧q+i≤L.length) (m:=fun i=>w-i) 0 [some 0] rfl zM (by simp only[alf,uA];exact zM) ⟨by omega,by omega⟩ ?_
 rintro i ⟨hi,hqi⟩
 by_cases hiw:i<w
 · by_cases hin:q+i<L.length
   · have hts:=jt (l:=L) (a:=q) (w:=i) hin
     have hns:=qL ((L.drop q).take i) (L.getD (q+i) false);rw[←hts] at hns;have hnl:=dw ((L.drop q).take i);have hln:((L.drop q).take i).length=i:=by simp;omega
     rw[hln] at hnl;have hp2:2^i≤2^63:=ako zd zo;have hxl:numOf ((L.drop q).take i)<9223372036854775808:=by omega
     generalize numOf ((L.drop q).take i)=x at*
     have hb:bS .or .u64 ((x:Int)*2) 1=((2*x+1:Nat):Int):=Dn x true hxl;refine ae ?_;refine aF [some 0] [] (qk (L:=L) (p:=q+i) hL hin) ?_
     cases hbit:L.getD (q+i) false with
     | true=>
       rw[hbit] at hns;simp only[Bool.toNat_true] at hns;refine bg hb ?_;refine aI (i+1) [some 0] rfl (by dsimp only;rw[←Nat.add_assoc];exact zM) (by dsimp only;rw[hns];exact zM) ⟨by omega,by omega⟩ zo
     | false=>
       rw[hbit] at hns;simp only[Bool.toNat_false,Nat.add_zero] at hns;refine ae ?_;refine aI (i+1) [some 0] rfl (by dsimp only;rw[←Nat.add_assoc];exact zM) (by dsimp only;rw[hns];exact zM) ⟨by omega,by omega⟩ zo
   · have hqe:q+i=L.length:=by omega
     rw[show dC L n w (f+1) q=(0,8,L.length,true) by unfold dC;rw[if_neg zo]] at hQ;rw[hqe];refine ae ?_;refine zW [some 0] [] (gJ (L:=L) (p:=L.length) (d:=false) hL (.inr rfl)) ?_;exact ai [some 0] hQ
 · obtain rfl:i=w:=by omega
   have hnl:=dw ((L.drop q).take i);have hln:((L.drop q).take i).length=i:=by simp;omega
   rw[hln] at hnl;have hp2:2^i≤2^64:=ako zd zo
   have hb:dC L n i (f+1) q=if numOf ((L.drop q).take i)<n then(numOf ((L.drop q).take i),0,q+i,false) else dC L n i f (q+i):=by
    conv=>lhs;unfold dC
    rw[if_pos hqi]
   by_cases hx:numOf ((L.drop q).take i)<n
   · rw[hb,if_pos hx] at hQ
     exact zE [some 0] hQ
   · rw[if_neg hx] at hb
     have hi0:0<i:=by
      rcases akQ i with h | h
      · subst h
        rw[amO] at hnl;omega
      · exact h
     refine ae ?_;refine aR (q+i) [some 0] ⟨hqi,?_⟩ zo;rw[hv,hb];exact zi hi0 f (q+i) zo
def cT:List Bool→Nat
 | []=>0
 | b::l=>b.toNat+cT l
theorem D6 (b:Bool):∀l,cT (l++[b])=cT l+b.toNat
 | []=>by simp[cT]
 | x::l=>by
   show x.toNat+cT (l++[b])=x.toNat+cT l+b.toNat;rw[D6 b l];omega
theorem Kh:∀l,cT l≤l.length
 | []=>by simp[cT]
 | x::l=>by
   have:=Kh l
   show x.toNat+cT l≤l.length+1
   cases x<;>simp<;>omega
def Ci (L:List Bool) (Y p:Nat):Nat×Int×Nat×Bool:=if p+Y≤L.length then(cT ((L.drop p).take Y),0,p+Y,false) else(0,8,L.length,true)
theorem IM {L:List Bool} {p Y:Nat} {y:Int} (hL:L.length≤1048576) (hp:p≤L.length) (hy:max 0 y=(Y:Int)) (hY:Y<9223372036854775807):aA Tryz.prog 194 [.ref 0 0 0 0,.I y] [some (bm L p false)]
 (.tup [.I ((Ci L Y p).1:Int),.I (Ci L Y p).2.1]) [some (bm L (Ci L Y p).2.2.1 (Ci L Y p).2.2.2)]:=by
 refine zF pl Tryz.call194 Tryz.func194 [.tmp 4,.tmp 5] fun Q hQ=>?_;unfold Ci at hQ;refine bg hy ?_
 refine aW (X:=Nat) (st:=fun i=>([(0,.ref 0 0 0 0),(6,.I ((cT ((L.drop p).take i):Nat):Int)),(10,.I Y),(11,.I i)],[some (bm L (p+i) false)]))
  (inv:=fun i=>i≤Y∧p+i≤L.length) (m:=fun i=>Y-i) 0 [some 0] rfl zM (by simp only[alf,cT];exact zM) ⟨by omega,by omega⟩ ?_
 rintro i ⟨hi,hpi⟩
 by_cases hiY:i<Y
 · by_cases hin:p+i<L.length
   · have hts:=jt (l:=L) (a:=p) (w:=i) hin
     have hcs:=D6 (L.getD (p+i) false) ((L.drop p).take i);rw[←hts] at hcs;have hcl:=Kh ((L.drop p).take i);have hln:((L.drop p).take i).length=i:=by simp;omega
     rw[hln] at hcl;generalize cT ((L.drop p).take i)=c at*
     refine ae ?_;refine aF [some 0] [] (qk (L:=L) (p:=p+i) hL hin) ?_
     cases hbit:L.getD (p+i) false with
     | true=>
       rw[hbit] at hcs;simp only[Bool.toNat_true] at hcs;refine ae ?_;refine aI (i+1) [some 0] rfl (by dsimp only;rw[←Nat.add_assoc];exact zM) (by dsimp only;rw[hcs];exact zM) ⟨by omega,by omega⟩ zo
     | false=>
       rw[hbit] at hcs;simp only[Bool.toNat_false,Nat.add_zero] at hcs;refine ae ?_;refine aI (i+1) [some 0] rfl (by dsimp only;rw[←Nat.add_assoc];exact zM) (by dsimp only;rw[hcs];exact zM) ⟨by omega,by omega⟩ zo
   · have hqe:p+i=L.length:=by omega
     rw[if_neg zo] at hQ;rw[hqe];refine ae ?_;refine zW [some 0] [] (gJ (L:=L) (p:=L.length) (d:=false) hL (.inr rfl)) ?_;exact ai [some 0] hQ
 · obtain rfl:i=Y:=by omega
   rw[if_pos hpi] at hQ;exact zE [some 0] hQ
end Go.Proofs.YtcnlmelpnflhnaaGreat
