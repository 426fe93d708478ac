import Derived.Test.YtcnlmelpnflhnaaGreatD3
namespace Go.Proofs.YtcnlmelpnflhnaaGreat
open Go.Eng Go.Vx
set_option linter.unusedSimpArgs false
set_option linter.unusedVariables false
set_option maxRecDepth 100000
def sg (b:Bool) (n:Nat):Int:=if b then-(n:Int) else n
theorem kP (b:Bool) (n:Nat):(sg b n).natAbs=n:=by cases b<;>simp[sg]
theorem Q3 (b:Bool) (n:Nat):decide (sg b n<0)=(b&&!decide (n=0)):=by
 by_cases h:n=0
 · subst h;cases b<;>simp[sg]
 · cases b<;>simp[sg,h]<;>omega
theorem lY (z:Int):sg (decide (z<0)) z.natAbs=z:=by
 by_cases h:z<0
 · rw[aks h];simp only[sg,if_true];omega
 · rw[akg h];simp only[sg,ala,if_false];omega
def WV (z:Int):V:=.agg [.row 1 ((nl (wg z.natAbs)).map (ie .u64)),.lit (.bool (decide (z<0)))]
attribute [go_sem] WV
theorem Yw (b:Bool) (n:Nat):WV (sg b n)=.agg [.row 1 ((nl (wg n)).map (ie .u64)),.lit (.bool (b&&!decide (n=0)))]:=by
 unfold WV;rw[kP,Q3]
theorem cL {b:Bool} {n:Nat} (hn:(wg n).length≤4000000):aA Tryz.prog 133 [.lit (.bool b),NV n] [] (WV (sg b n)) []:=by
 rw[Yw];refine zF Qm Tryz.call133 Tryz.func133 [.cell 4 232] fun Q hQ=>?_
 cases b with
 | false=>
   rw[amz] at hQ;exact zE [] hQ
 | true=>
   rw[alB] at hQ;refine ae ?_;refine zC (dS (n:=n) hn) ?_;exact ai [] hQ
theorem qv {z:Int}:aA Tryz.prog 164 [WV z] [] (.lit (.bool (decide (z<0)))) []:=by
 refine zF pl Tryz.call164 Tryz.func164 [.tmp 2] fun Q hQ=>?_;exact zE [] hQ
theorem j8 {z:Int}:aA Tryz.prog 161 [WV z] [] (NV z.natAbs) []:=by
 refine zF pl Tryz.call161 Tryz.func161 [.cell 2 157] fun Q hQ=>?_;exact zE [] hQ
theorem Eg {z:Int} (hz:(wg z.natAbs).length≤4000000):aA Tryz.prog 187 [WV z] [] (WV (-z)) []:=by
 refine zF pl Tryz.call187 Tryz.func187 [.cell 2 232] fun Q hQ=>?_;have hm:=cL (b:= !decide (z<0)) (n:=z.natAbs) hz
 have e:sg (!decide (z<0)) z.natAbs= -z:=by
  by_cases h:z<0
  · rw[aks h];simp only[sg,amo,ala,if_false];omega
  · rw[akg h];simp only[sg,amL,if_true];omega
 rw[e] at hm;refine ae ?_;refine zC hm ?_;exact ai [] hQ
theorem Rd {n:Int} (h0: -9223372036854775808≤n) (h1:n≤9223372036854775807):aA Tryz.prog 184 [.I n] [] (WV n) []:=by
 refine zF pl Tryz.call184 Tryz.func184 [.cell 2 232] fun Q hQ=>?_
 by_cases h:n<0
 · obtain ⟨m,rfl⟩:∃m:Nat,n= -(m:Int):=⟨n.natAbs,by omega⟩
   have k1:IntKind.u64.wrap (-(m:Int))=18446744073709551616-(m:Int):=by simp[IntKind.wrap,IntKind.bits,IntKind.signed];omega
   have k2:IntKind.u64.wrap (0-(18446744073709551616-(m:Int)))=(m:Int):=by simp[IntKind.wrap,IntKind.bits,IntKind.signed];omega
   have ho:=eI (x:=m) zo;have hm:=cL (b:=true) (n:=m) (akE (di zo) zd);rw[show sg true m= -(m:Int) from rfl] at hm;refine eo k1 k2 ?_;refine zW [] [1] ho ?_;refine zC hm ?_;exact ai [] hQ
 · obtain ⟨m,rfl⟩:∃m:Nat,n=(m:Int):=⟨n.natAbs,by omega⟩
   have ho:=eI (x:=m) zo;have hm:=cL (b:=false) (n:=m) (akE (di zo) zd);rw[show sg false m=(m:Int) from rfl] at hm;refine ae ?_;refine zW [] [1] ho ?_;refine zC hm ?_;exact ai [] hQ
def rh (x y:Int):Int:=if x<y then-1 else if y<x then 1 else 0
theorem OK {x y:Int} (hx:(wg x.natAbs).length≤4000000) (hy:(wg y.natAbs).length≤4000000):aA Tryz.prog 181 [WV x,WV y] [] (.I (rh x y)) []:=by
 refine zF pl Tryz.call181 Tryz.func181 [.tmp 4] fun Q hQ=>?_
 by_cases h1:x<0
 · by_cases h2:y<0
   · have hc:=fE (a:=y.natAbs) (b:=x.natAbs) hy hx
     have e:iP y.natAbs x.natAbs=rh x y:=by unfold iP rh;repeat' split<;>omega
     rw[e] at hc;refine eo (aks h1) (aks h2) ?_;refine zC hc ?_;exact ai [] hQ
   · have e:rh x y= -1:=by unfold rh;rw[if_pos zo]
     rw[e] at hQ;refine eo (aks h1) (akg h2) ?_;exact ai [] hQ
 · by_cases h2:y<0
   · have e:rh x y=1:=by unfold rh;rw[if_neg zo,if_pos zo]
     rw[e] at hQ;refine eo (akg h1) (aks h2) ?_;exact ai [] hQ
   · have hc:=fE (a:=x.natAbs) (b:=y.natAbs) hx hy
     have e:iP x.natAbs y.natAbs=rh x y:=by unfold iP rh;repeat' split<;>omega
     rw[e] at hc;refine eo (akg h1) (akg h2) ?_;refine zC hc ?_;exact ai [] hQ
theorem MO {x y:Int} (hx:(wg x.natAbs).length≤1000000) (hy:(wg y.natAbs).length≤1000000):aA Tryz.prog 200 [WV x,WV y] [] (WV (x+y)) []:=by
 have hla:(wg (x.natAbs+y.natAbs)).length≤1000001:=iX (B:=18446744073709551616) zd hx hy;have hm:=fun b n (h:n≤x.natAbs+y.natAbs)=>cL (b:=b) (n:=n) (akE (df h) (akE hla zd));refine zF P6 Tryz.call200 Tryz.func200 [.cell 4 232] fun Q hQ=>?_
 by_cases h1:x<0
 · by_cases h2:y<0
   · have hb:sg true (x.natAbs+y.natAbs)=x+y:=by simp only[sg,if_true];omega
     have hm:=hm true _ (akk _);rw[hb] at hm;refine eo (aks h1) (aks h2) ?_;refine zC (ia (a:=x.natAbs) (b:=y.natAbs) zo zo) ?_;refine zC hm ?_;exact ai [] hQ
   · by_cases h3:y.natAbs≤x.natAbs
     · have hb:sg true (x.natAbs-y.natAbs)=x+y:=by simp only[sg,if_true];omega
       have hm:=hm true (x.natAbs-y.natAbs) zo;rw[hb] at hm;refine eo (aks h1) (akg h2) ?_;refine zC (jP (a:=x.natAbs) (b:=y.natAbs) h3 zo) ?_;refine zC hm ?_;exact ai [] hQ
     · have hb:sg false (y.natAbs-x.natAbs)=x+y:=by simp only[sg,ala,if_false];omega
       have hm:=hm false (y.natAbs-x.natAbs) zo;rw[hb] at hm;refine eo (aks h1) (akg h2) ?_;refine zC (rV (a:=x.natAbs) (b:=y.natAbs) zo zo zo) ?_;refine zC (jP (a:=y.natAbs) (b:=x.natAbs) zo zo) ?_;refine zC hm ?_;exact ai [] hQ
 · by_cases h2:y<0
   · by_cases h3:y.natAbs≤x.natAbs
     · have hb:sg false (x.natAbs-y.natAbs)=x+y:=by simp only[sg,ala,if_false];omega
       have hm:=hm false (x.natAbs-y.natAbs) zo;rw[hb] at hm;refine eo (akg h1) (aks h2) ?_;refine zC (jP (a:=x.natAbs) (b:=y.natAbs) h3 zo) ?_;refine zC hm ?_;exact ai [] hQ
     · have hb:sg true (y.natAbs-x.natAbs)=x+y:=by simp only[sg,if_true];omega
       have hm:=hm true (y.natAbs-x.natAbs) zo;rw[hb] at hm;refine eo (akg h1) (aks h2) ?_;refine zC (rV (a:=x.natAbs) (b:=y.natAbs) zo zo zo) ?_;refine zC (jP (a:=y.natAbs) (b:=x.natAbs) zo zo) ?_;refine zC hm ?_;exact ai [] hQ
   · have hb:sg false (x.natAbs+y.natAbs)=x+y:=by simp only[sg,ala,if_false];omega
     have hm:=hm false _ (akk _);rw[hb] at hm;refine eo (akg h1) (akg h2) ?_;refine zC (ia (a:=x.natAbs) (b:=y.natAbs) zo zo) ?_;refine zC hm ?_;exact ai [] hQ
theorem Q9 (b c:Bool) (m n:Nat):sg (!(b==c)) (m*n)=sg b m*sg c n:=by
 cases b<;>cases c<;>simp[sg,Int.neg_mul,Int.mul_neg]
theorem qo {x y:Int} (hx:(wg x.natAbs).length≤1000000) (hy:(wg y.natAbs).length≤1000000):aA Tryz.prog 182 [WV x,WV y] [] (WV (x*y)) []:=by
 have hla:(wg (x.natAbs*y.natAbs)).length≤2000000:=akE (iY (B:=18446744073709551616) zd _ _) (Nat.add_le_add hx hy);have hm:=cL (b:= !(decide (x<0)==decide (y<0))) (n:=x.natAbs*y.natAbs) zo;rw[Q9,lY,lY] at hm;refine zF Qk Tryz.call182 Tryz.func182 [.cell 4 232] fun Q hQ=>?_;refine ae ?_;refine zC (CU (a:=x.natAbs) (b:=y.natAbs) hx hy) ?_;refine zC hm ?_;exact ai [] hQ
theorem yT {X Y:Nat} (hY:Y≠0):((X:Int)/(Y:Int)=((X/Y:Nat):Int))∧((X:Int)%(Y:Int)=((X%Y:Nat):Int)):=⟨by simp,by simp⟩
theorem uM {X Y:Nat} (hY:Y≠0) (h:X%Y=0):(-(X:Int)/(Y:Int)= -((X/Y:Nat):Int))∧(-(X:Int)%(Y:Int)=0):=by
 have hd:=akO X Y;refine(Int.ediv_emod_unique zo).2 ⟨?_,by omega,by omega⟩;rw[h,alv] at hd
 conv=>rhs;rw[←hd]
 rw[Int.mul_neg,Int.natCast_mul];omega
theorem FK {X Y:Nat} (hY:Y≠0) (h:X%Y≠0):(-(X:Int)/(Y:Int)= -((X/Y+1:Nat):Int))∧(-(X:Int)%(Y:Int)=((Y-X%Y:Nat):Int)):=by
 have hd:=akO X Y;have hm:=akD X (amZ hY);refine(Int.ediv_emod_unique zo).2 ⟨?_,by omega,by omega⟩
 conv=>rhs;rw[←hd]
 generalize X%Y=r at*
 generalize X/Y=q at*
 rw[Int.mul_neg,Int.natCast_add,Int.natCast_add,Int.natCast_mul,Int.mul_add];generalize (Y:Int)*(q:Int)=u;omega
theorem Ke (x:Int) (c:Bool) (Y:Nat):x/sg c Y=(if c then-(x/(Y:Int)) else x/(Y:Int))∧x%sg c Y=x%(Y:Int):=by
 cases c<;>simp[sg,Int.ediv_neg,Int.emod_neg]
theorem Ot {x y:Int} (hy0:y≠0) (hx:(wg x.natAbs).length≤999998) (hy:(wg y.natAbs).length≤999998):aA Tryz.prog 185 [WV x,WV y] [] (.tup [WV (x/y),WV (x%y),.I 0]) []:=by
 have hY:y.natAbs≠0:=by omega
 have hs:=Ke x (decide (y<0)) y.natAbs;rw[lY] at hs;have hql:(wg (x.natAbs/y.natAbs)).length≤999998:=akE (df (alq _ _)) hx;have h1l:(wg 1).length≤999998:=akE (di zd) zd;have hql1:(wg (x.natAbs/y.natAbs+1)).length≤999999:=iX (B:=18446744073709551616) zd hql h1l;have hmod:=akD x.natAbs (amZ hY);have hrl:(wg (x.natAbs%y.natAbs)).length≤999998:=akE (df zo) hy;have hrl1:(wg (y.natAbs-x.natAbs%y.natAbs)).length≤999998:=akE (df zo) hy;have ho:=eI (x:=1) zd;have hdv:=qB (a:=x.natAbs) (b:=y.natAbs) hY zo zo;have hp:=yT (X:=x.natAbs) hY;have hn0:=fun h=>uM (X:=x.natAbs) (Y:=y.natAbs) hY h;have hn1:=fun h=>FK (X:=x.natAbs) (Y:=y.natAbs) hY h;have hxs:=lY x;generalize x.natAbs/y.natAbs=q at*
 generalize x.natAbs%y.natAbs=r at*
 have hmq:=fun b=>cL (b:=b) (n:=q) zo;have hmq1:=fun b=>cL (b:=b) (n:=q+1) zo;have hmr:=cL (b:=false) (n:=r) zo;have hmr1:=cL (b:=false) (n:=y.natAbs-r) zo;rw[show sg false r=(r:Int) from rfl] at hmr;rw[show sg false (y.natAbs-r)=((y.natAbs-r:Nat):Int) from rfl] at hmr1;refine zF KF Tryz.call185 Tryz.func185 [.cell 4 232,.cell 5 232,.tmp 6] fun Q hQ=>?_;rw[hs.1,hs.2] at hQ;refine ae ?_;refine aC (hdv) rfl rfl ?_
 by_cases h:x<0
 · have hxe:x= -(x.natAbs:Int):=by omega
   rw[←hxe] at hn0 hn1
   by_cases hr:r=0
   · rw[(hn0 hr).1,(hn0 hr).2] at hQ
     have e:(if decide (y<0)=true then-(-(q:Int)) else-(q:Int))=sg (!decide (y<0)) q:=by cases decide (y<0)<;>simp[sg]
     have e0:WV 0=WV ((r:Nat):Int):=by rw[hr];rfl
     rw[e,e0] at hQ;refine bg (aks h) ?_;refine aC (dS (n:=r) zo) rfl rfl ?_;rw[aks hr];refine ae ?_;refine zC (hmq (!decide (y<0))) ?_;refine zC hmr ?_;exact ai [] hQ
   · rw[(hn1 hr).1,(hn1 hr).2] at hQ
     have e:(if decide (y<0)=true then-(-((q+1:Nat):Int)) else-((q+1:Nat):Int))=sg (!decide (y<0)) (q+1):=by cases decide (y<0)<;>simp[sg]<;>omega
     rw[e] at hQ;refine bg (aks h) ?_;refine aC (dS (n:=r) zo) rfl rfl ?_;rw[akg hr];refine ae ?_;refine zW [] [6] ho ?_;refine zC (ia (a:=q) (b:=1) zo zo) ?_;refine zC (jP (a:=y.natAbs) (b:=r) zo zo) ?_;refine zC (hmq1 (!decide (y<0))) ?_;refine zC hmr1 ?_;exact ai [] hQ
 · have hxe:x=(x.natAbs:Int):=by omega
   rw[←hxe] at hp;rw[hp.1,hp.2] at hQ;have e:(if decide (y<0)=true then-(q:Int) else(q:Int))=sg (decide (y<0)) q:=by cases decide (y<0)<;>simp[sg]
   rw[e] at hQ;refine bg (akg h) ?_;refine zC (hmq (decide (y<0))) ?_;refine zC hmr ?_;exact ai [] hQ
end Go.Proofs.YtcnlmelpnflhnaaGreat
