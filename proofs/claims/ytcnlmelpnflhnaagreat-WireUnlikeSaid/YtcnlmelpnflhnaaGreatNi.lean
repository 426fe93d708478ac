import Derived.Test.YtcnlmelpnflhnaaGreatRa
import Derived.Test.YtcnlmelpnflhnaaGreatE6
import Derived.Test.YtcnlmelpnflhnaaGreatD1
import Derived.Test.YtcnlmelpnflhnaaGreatRh
import Derived.Test.YtcnlmelpnflhnaaGreatZ1
import Derived.Test.YtcnlmelpnflhnaaGreatD3
import Derived.Test.YtcnlmelpnflhnaaGreatFa
namespace Go.Proofs.YtcnlmelpnflhnaaGreat
open Go.Eng Go.Vx
set_option linter.unusedSimpArgs false
set_option linter.unusedVariables false
set_option maxRecDepth 100000
def dg (n:Nat):List Nat:=kR 10000 n
def DV (n:Nat):V:=.row 1 ((nl (dg n)).map (ie .i64))
attribute [go_sem] DV
def wv (W:List Nat):Nat:=aA 18446744073709551616 W
@[go_sem] theorem aco:pk []=[]:=(rfl)
theorem FI {B:List Int} {p w:Nat} (hI:HY B) (hB:B.length≤1099511627776) (hw:w≤64) (hp:8*B.length<p+w) (hp2:p≤8*B.length):aC Tryz.prog 48 [.ref 0 0 0 0,.lit (.int .i64 (w:Int))] [some (nB B p)] (.tup [.lit (.int .u64 0),.lit (.int .i64 5)]) [some (nB B p)]:=by
 refine zF pl Tryz.call48 Tryz.func48 [.tmp 4,.tmp 5] fun Q hQ=>?_;refine ae ?_;refine az (mD) rfl rfl ?_;rw[agC (show(0:Int)≤(w:Int)∧(w:Int)≤64 by omega)];refine zq6 ?_;refine zW [some 0] [] (Av (p:=p) hB zo) ?_;exact ak [some 0] hQ
theorem Hx {B:List Int} {p:Nat} {w:Int} (hw:¬(0≤w∧w≤64)):aC Tryz.prog 48 [.ref 0 0 0 0,.lit (.int .i64 w)] [some (nB B p)] (.tup [.lit (.int .u64 0),.lit (.int .i64 2)]) [some (nB B p)]:=by
 refine zF pl Tryz.call48 Tryz.func48 [.tmp 4,.tmp 5] fun Q hQ=>?_;refine ae ?_;refine az (mD) rfl rfl ?_;rw[agq hw];exact zE [some 0] hQ
theorem Fy {B:List Int} {p:Nat} {w:Int} (hI:HY B) (hB:B.length≤1099511627776) (hp:p≤8*B.length):aC Tryz.prog 48 [.ref 0 0 0 0,.lit (.int .i64 w)] [some (nB B p)]
 (.tup [.lit (.int .u64 ((rX (bitsOf B) p w).1:Int)),.lit (.int .i64 (rX (bitsOf B) p w).2.2)]) [some (nB B (rX (bitsOf B) p w).2.1)]:=by
 unfold rX;have hbl:=jb B
 by_cases hw:0≤w∧w≤64
 · obtain ⟨m,rfl⟩:=aiW hw.1
   simp only[if_pos hw,ag9]
   by_cases h2:p+m≤(bitsOf B).length
   · simp only[if_pos h2]
     exact l8 hI hB zo zo
   · simp only[if_neg h2]
     exact FI hI hB zo zo hp
 · simp only[if_neg hw]
   exact Hx hw
theorem EI {B:List Int} {p:Nat} (hI:HY B) (hB:B.length≤1099511627776) (hp:p≤8*B.length):aC Tryz.prog 150 [.ref 0 0 0 0] [some (nB B p)]
 (.tup [.lit (.bool (decide ((rX (bitsOf B) p 1).1=1))),.lit (.int .i64 (rX (bitsOf B) p 1).2.2)]) [some (nB B (rX (bitsOf B) p 1).2.1)]:=by
 refine zF pl Tryz.call150 Tryz.func150 [.tmp 2,.tmp 3] fun Q hQ=>?_;refine ae ?_;refine zW [some 0] [] (Fy (B:=B) (p:=p) (w:=1) hI hB hp) ?_;rw[show decide (((rX (bitsOf B) p 1).1:Int)=1)=decide ((rX (bitsOf B) p 1).1=1) by rw[decide_eq_decide];omega];exact ak [some 0] hQ
theorem x7 {x y:Rat}:((x.num*(y.den:Int):Int):Rat)/((y.num*(x.den:Int):Int):Rat)=x/y:=by
 rw[←Rat.divInt_eq_div,Rat.div_def x y,Rat.inv_def]
 conv=>rhs;rw[←Rat.num_divInt_den x]
 rw[Rat.divInt_mul_divInt,Int.mul_comm y.num]
theorem yJ {y:Rat} (h:y≠0):y.num≠0:=fun e=>h (Rat.num_eq_zero.1 e)
theorem NN {k l:Nat} {x y:Rat} (hk:1≤k+l) (hx:RS k x) (hy:RS l y):RS (k+l) (x/y):=by
 by_cases h:y=0
 · subst h
   have e:x/0=0:=by rw[Rat.div_def,Rat.inv_zero,Rat.mul_zero]
   rw[e];exact⟨by rw[show(0:Rat).num.natAbs=0 from rfl,ej];exact agM _,agI (cK zd) hk⟩
 · have hn0:y.num*(x.den:Int)≠0:=Int.mul_ne_zero (yJ h) (by have:=x.den_nz;omega)
   rw[←x7,←oK hn0];refine LC zo ?_ ?_
   · rw[jQ]
     exact fB hx.1 (by simp only[ahe];exact hy.2)
   · have:=fB (x:=y.num) (y:=(x.den:Int)) hy.1 (by simp only[ahe];exact hx.2)
     omega
theorem Da {x:Rat} (hx:RS 400000 x):aC Tryz.prog 167 [RV x] [] (WV x.floor) []:=by
 obtain ⟨hx1,hx2⟩:=hx;have hd:=Ko (x:=x.num) (y:=(x.den:Int)) (by have:=x.den_nz;omega) zo (by simp only[ahe];omega);rw[←Rat.floor_def] at hd;refine zF LO Tryz.call167 Tryz.func167 [.cell 2 232] fun Q hQ=>?_;refine ae ?_;refine zC (jI (x:=x) zo) ?_;refine zC hd ?_;exact ak [] hQ
theorem Iv {n M:Nat} {m:Int} (hm:max 0 m=(M:Int)) (hM:M≤9223372036854775807) (hn:(wg n).length≤1000000):aC Tryz.prog 171 [NV n,.lit (.int .i64 m)] [] (.lit (.int .i64 ((min n M:Nat):Int))) []:=by
 refine zF pl Tryz.call171 Tryz.func171 [.tmp 4] fun Q hQ=>?_;have hnl:=aD (wg n)
 by_cases h1:1<(wg n).length
 · have hgt:18446744073709551616≤n:=by
    refine Classical.byContradiction fun h=>?_
    have:=cK (n:=n) zo
    omega
   rw[show min n M=M by omega] at hQ;have hc:decide ((1:Int)<((nl (wg n)).length:Int))=true:=agC zo
   simp(maxSteps:=1000000) (disch:=(first | omega | (simp only[dm,agr,ags,true_and,and_true];(try omega);done) | fail)) only[go_sem,hm,hc,Int.reduceEq,Int.reduceToNat,Nat.reduceAdd,Nat.reduceMul,Nat.reduceEqDiff, ↓reduceIte]
   exact ak [] hQ
 · have hc:decide ((1:Int)<((nl (wg n)).length:Int))=false:=agq zo
   by_cases h0:n=0
   · subst h0
     rw[ej] at hnl;rw[show min 0 M=0 by omega] at hQ;have hz:=du (n:=0) (by rw[ej];decide);rw[oy] at hz;refine dK hm @ej ?_;refine zC hz ?_;exact ak [] hQ
   · have h2:(wg n).length=1:=by have:=s5 h0;omega
     have hw:=sX h2;have hlt:n<18446744073709551616:=eB n n (by rw[hw];simp);have hn1:nl (wg n)=[(n:Int)]:=by rw[hw];rfl
     by_cases hle:M<n
     · rw[show min n M=M by omega] at hQ
       refine dK hm hn1 ?_;exact ak [] hQ
     · rw[show min n M=n by omega] at hQ
       have hz:=du (n:=n) zo;rw[agq h0] at hz;unfold NV at hz;rw[hn1] at hz;refine dK hm hn1 ?_;refine zC hz ?_;exact ak [] hQ
def db (L:List Bool) (n w:Nat):Nat→Nat→Nat×Int×Nat×Bool
 | 0,p=>(0,8,L.length,true)
 | f+1,p=>if p+w≤L.length then(if numOf ((L.drop p).take w)<n then(numOf ((L.drop p).take w),0,p+w,false) else db L n w f (p+w)) else(0,8,L.length,true)
def bP (L:List Bool) (n p:Nat):Nat×Int×Nat×Bool:=db L n (bl (n-1)) (L.length+1-p) p
theorem wO {L:List Bool} {n w:Nat} (hw:0<w):∀f q,L.length+1-q≤f→db L n w f q=db L n w (L.length+1-q) q:=by
 intro f
 induction f using Nat.strongRecOn with
 | _ f ih=>
   intro q h
   by_cases hq:q+w≤L.length
   · obtain ⟨g,hg⟩:∃g,L.length+1-q=g+1:=⟨L.length-q,by omega⟩
     obtain ⟨k,rfl⟩:∃k,f=k+1:=⟨f-1,by omega⟩;rw[hg];unfold db;rw[if_pos hq,if_pos hq]
     split
     · rfl
     · rw[ih k zo (q+w) zo,ih g zo (q+w) zo]
   · have e:∀k,db L n w k q=(0,8,L.length,true):=fun k=>by
      cases k with
      | zero=>rfl
      | succ k=>unfold db;rw[if_neg hq]
     rw[e,e]
theorem Eb {L:List Bool} {n p:Nat} (hL:L.length≤1048576) (hp:p≤L.length) (hn:0<n) (hn2:n<18446744073709551616):aC Tryz.prog 77 [.ref 0 0 0 0,.lit (.int .u64 n)] [some (aX L p false)]
 (.tup [.lit (.int .u64 ((bP L n p).1:Int)),.lit (.int .i64 (bP L n p).2.1)]) [some (aX L (bP L n p).2.2.1 (bP L n p).2.2.2)]:=by
 refine zF pl Tryz.call77 Tryz.func77 [.tmp 4,.tmp 5] fun Q hQ=>?_;have hn1:(n:Int)-1=((n-1:Nat):Int):=by omega
 have hw:=bB (n:=n-1) (k:=64) zo;have hnw:=jr (n-1);unfold bP at hQ;generalize hwd:bl (n-1)=w at*
 refine bh hn1 ?_;refine zC (hwd▸j8 (n:=n-1) zo) ?_
 refine aU (X:=Nat) (st:=fun q=>([(0,.ref 0 0 0 0),(1,.lit (.int .u64 (n:Int))),(6,.lit (.int .i64 (w:Int)))],[some (aX L q false)]))
  (inv:=fun q=>q≤L.length∧db L n w (L.length+1-p) p=db L n w (L.length+1-q) q) (m:=fun q=>L.length-q) p [some 0] ⟨hp,rfl⟩ ?_
 rintro q ⟨hq,hv⟩;obtain ⟨f,hf⟩:∃f,L.length+1-q=f+1:=⟨L.length-q,by omega⟩;rw[hf] at hv;rw[hv] at hQ;refine ae ?_
 refine aM (X:=Nat) (st:=fun i=>([(0,.ref 0 0 0 0),(1,.lit (.int .u64 (n:Int))),(6,.lit (.int .i64 (w:Int))),(7,.lit (.int .u64 ((numOf ((L.drop q).take i):Nat):Int))),(15,.lit (.int .i64 (w:Int))),(16,.lit (.int .i64 (i:Int)))],[some (aX L (q+i) false)]))
  (inv:=fun i=>i≤w∧q+i≤L.length) (m:=fun i=>w-i) 0 [some 0] rfl zM (by simp only[ahk,sd];exact zM) ⟨by omega,by omega⟩ ?_
 rintro i ⟨hi,hqi⟩
 by_cases hiw:i<w
 · by_cases hin:q+i<L.length
   · have hts:=ko (l:=L) (a:=q) (w:=i) hin
     have hns:=pb ((L.drop q).take i) (L.getD (q+i) false);rw[←hts] at hns;have hnl:=fE ((L.drop q).take i);have hln:((L.drop q).take i).length=i:=by simp;omega
     rw[hln] at hnl;have hp2:2^i≤2^63:=agA zd zo;have hxl:numOf ((L.drop q).take i)<9223372036854775808:=by omega
     generalize numOf ((L.drop q).take i)=x at*
     have hb:bY .or .u64 ((x:Int)*2) 1=((2*x+1:Nat):Int):=Ax x true hxl;refine ae ?_;refine aV [some 0] [] (oz (L:=L) (p:=q+i) hL hin) ?_
     cases hbit:L.getD (q+i) false with
     | true=>
       rw[hbit] at hns;simp only[Bool.toNat_true] at hns;refine bh hb ?_;refine aG (i+1) [some 0] rfl (by dsimp only;rw[←Nat.add_assoc];exact zM) (by dsimp only;rw[hns];exact zM) ⟨by omega,by omega⟩ zo
     | false=>
       rw[hbit] at hns;simp only[Bool.toNat_false,Nat.add_zero] at hns;refine ae ?_;refine aG (i+1) [some 0] rfl (by dsimp only;rw[←Nat.add_assoc];exact zM) (by dsimp only;rw[hns];exact zM) ⟨by omega,by omega⟩ zo
   · have hqe:q+i=L.length:=by omega
     rw[show db L n w (f+1) q=(0,8,L.length,true) by unfold db;rw[if_neg zo]] at hQ;rw[hqe];refine ae ?_;refine zW [some 0] [] (fM (L:=L) (p:=L.length) (d:=false) hL (.inr rfl)) ?_;exact ak [some 0] hQ
 · obtain rfl:i=w:=by omega
   have hnl:=fE ((L.drop q).take i);have hln:((L.drop q).take i).length=i:=by simp;omega
   rw[hln] at hnl;have hp2:2^i≤2^64:=agA zd zo
   have hb:db L n i (f+1) q=if numOf ((L.drop q).take i)<n then(numOf ((L.drop q).take i),0,q+i,false) else db L n i f (q+i):=by
    conv=>lhs;unfold db
    rw[if_pos hqi]
   by_cases hx:numOf ((L.drop q).take i)<n
   · rw[hb,if_pos hx] at hQ
     exact zE [some 0] hQ
   · rw[if_neg hx] at hb
     have hi0:0<i:=by
      rcases agX i with h | h
      · subst h
        rw[aiP] at hnl;omega
      · exact h
     refine ae ?_;refine aO (q+i) [some 0] ⟨hqi,?_⟩ zo;rw[hv,hb];exact wO hi0 f (q+i) zo
def cT:List Bool→Nat
 | []=>0
 | b::l=>b.toNat+cT l
theorem Bd (b:Bool):∀l,cT (l++[b])=cT l+b.toNat
 | []=>by simp[cT]
 | x::l=>by
   show x.toNat+cT (l++[b])=x.toNat+cT l+b.toNat;rw[Bd b l];omega
theorem GW:∀l,cT l≤l.length
 | []=>by simp[cT]
 | x::l=>by
   have:=GW l
   show x.toNat+cT l≤l.length+1
   cases x<;>simp<;>omega
def zj (L:List Bool) (Y p:Nat):Nat×Int×Nat×Bool:=if p+Y≤L.length then(cT ((L.drop p).take Y),0,p+Y,false) else(0,8,L.length,true)
theorem Fw {L:List Bool} {p Y:Nat} {y:Int} (hL:L.length≤1048576) (hp:p≤L.length) (hy:max 0 y=(Y:Int)) (hY:Y<9223372036854775807):aC Tryz.prog 194 [.ref 0 0 0 0,.lit (.int .i64 y)] [some (aX L p false)]
 (.tup [.lit (.int .i64 ((zj L Y p).1:Int)),.lit (.int .i64 (zj L Y p).2.1)]) [some (aX L (zj L Y p).2.2.1 (zj L Y p).2.2.2)]:=by
 refine zF pl Tryz.call194 Tryz.func194 [.tmp 4,.tmp 5] fun Q hQ=>?_;unfold zj at hQ;refine bh hy ?_
 refine aM (X:=Nat) (st:=fun i=>([(0,.ref 0 0 0 0),(6,.lit (.int .i64 ((cT ((L.drop p).take i):Nat):Int))),(10,.lit (.int .i64 (Y:Int))),(11,.lit (.int .i64 (i:Int)))],[some (aX L (p+i) false)]))
  (inv:=fun i=>i≤Y∧p+i≤L.length) (m:=fun i=>Y-i) 0 [some 0] rfl zM (by simp only[ahk,cT];exact zM) ⟨by omega,by omega⟩ ?_
 rintro i ⟨hi,hpi⟩
 by_cases hiY:i<Y
 · by_cases hin:p+i<L.length
   · have hts:=ko (l:=L) (a:=p) (w:=i) hin
     have hcs:=Bd (L.getD (p+i) false) ((L.drop p).take i);rw[←hts] at hcs;have hcl:=GW ((L.drop p).take i);have hln:((L.drop p).take i).length=i:=by simp;omega
     rw[hln] at hcl;generalize cT ((L.drop p).take i)=c at*
     refine ae ?_;refine aV [some 0] [] (oz (L:=L) (p:=p+i) hL hin) ?_
     cases hbit:L.getD (p+i) false with
     | true=>
       rw[hbit] at hcs;simp only[Bool.toNat_true] at hcs;refine ae ?_;refine aG (i+1) [some 0] rfl (by dsimp only;rw[←Nat.add_assoc];exact zM) (by dsimp only;rw[hcs];exact zM) ⟨by omega,by omega⟩ zo
     | false=>
       rw[hbit] at hcs;simp only[Bool.toNat_false,Nat.add_zero] at hcs;refine ae ?_;refine aG (i+1) [some 0] rfl (by dsimp only;rw[←Nat.add_assoc];exact zM) (by dsimp only;rw[hcs];exact zM) ⟨by omega,by omega⟩ zo
   · have hqe:p+i=L.length:=by omega
     rw[if_neg zo] at hQ;rw[hqe];refine ae ?_;refine zW [some 0] [] (fM (L:=L) (p:=L.length) (d:=false) hL (.inr rfl)) ?_;exact ak [some 0] hQ
 · obtain rfl:i=Y:=by omega
   rw[if_pos hpi] at hQ;exact zE [some 0] hQ
end Go.Proofs.YtcnlmelpnflhnaaGreat
