import Derived.Test.YtcnlmelpnflhnaaGreatD3
namespace Go.Proofs.YtcnlmelpnflhnaaGreat
open Go.Eng Go.Vx
set_option linter.unusedSimpArgs false
set_option linter.unusedVariables false
set_option maxRecDepth 100000
def sg (b:Bool) (n:Nat):Int:=if b then-(n:Int) else n
theorem jQ (b:Bool) (n:Nat):(sg b n).natAbs=n:=by cases b<;>simp[sg]
theorem MU (b:Bool) (n:Nat):decide (sg b n<0)=(b&&!decide (n=0)):=by
 by_cases h:n=0
 · subst h;cases b<;>simp[sg]
 · cases b<;>simp[sg,h]<;>omega
theorem kN (z:Int):sg (decide (z<0)) z.natAbs=z:=by
 by_cases h:z<0
 · rw[agC h];simp only[sg,if_true];omega
 · rw[agq h];simp only[sg,ahg,if_false];omega
def WV (z:Int):V:=.agg [.row 1 ((nl (wg z.natAbs)).map (ie .u64)),.lit (.bool (decide (z<0)))]
attribute [go_sem] WV
theorem Ui (b:Bool) (n:Nat):WV (sg b n)=.agg [.row 1 ((nl (wg n)).map (ie .u64)),.lit (.bool (b&&!decide (n=0)))]:=by
 unfold WV;rw[jQ,MU]
theorem cu {b:Bool} {n:Nat} (hn:(wg n).length≤4000000):aC Tryz.prog 133 [.lit (.bool b),NV n] [] (WV (sg b n)) []:=by
 rw[Ui];refine zF Mj Tryz.call133 Tryz.func133 [.cell 4 232] fun Q hQ=>?_
 cases b with
 | false=>
   rw[aiw] at hQ;exact zE [] hQ
 | true=>
   rw[ahE] at hQ;refine ae ?_;refine zC (du (n:=n) hn) ?_;exact ak [] hQ
theorem oM {z:Int}:aC Tryz.prog 164 [WV z] [] (.lit (.bool (decide (z<0)))) []:=by
 refine zF pl Tryz.call164 Tryz.func164 [.tmp 2] fun Q hQ=>?_;exact zE [] hQ
theorem jj {z:Int}:aC Tryz.prog 161 [WV z] [] (NV z.natAbs) []:=by
 refine zF pl Tryz.call161 Tryz.func161 [.cell 2 157] fun Q hQ=>?_;exact zE [] hQ
theorem Bp {z:Int} (hz:(wg z.natAbs).length≤4000000):aC Tryz.prog 187 [WV z] [] (WV (-z)) []:=by
 refine zF pl Tryz.call187 Tryz.func187 [.cell 2 232] fun Q hQ=>?_;have hm:=cu (b:= !decide (z<0)) (n:=z.natAbs) hz
 have e:sg (!decide (z<0)) z.natAbs= -z:=by
  by_cases h:z<0
  · rw[agC h];simp only[sg,aik,ahg,if_false];omega
  · rw[agq h];simp only[sg,aiv,if_true];omega
 rw[e] at hm;refine ae ?_;refine zC hm ?_;exact ak [] hQ
theorem M5 {n:Int} (h0: -9223372036854775808≤n) (h1:n≤9223372036854775807):aC Tryz.prog 184 [.lit (.int .i64 n)] [] (WV n) []:=by
 refine zF pl Tryz.call184 Tryz.func184 [.cell 2 232] fun Q hQ=>?_
 by_cases h:n<0
 · obtain ⟨m,rfl⟩:∃m:Nat,n= -(m:Int):=⟨n.natAbs,by omega⟩
   have k1:IntKind.u64.wrap (-(m:Int))=18446744073709551616-(m:Int):=by simp[IntKind.wrap,IntKind.bits,IntKind.signed];omega
   have k2:IntKind.u64.wrap (0-(18446744073709551616-(m:Int)))=(m:Int):=by simp[IntKind.wrap,IntKind.bits,IntKind.signed];omega
   have ho:=dV (x:=m) zo;have hm:=cu (b:=true) (n:=m) (agI (cK zo) zd);rw[show sg true m= -(m:Int) from rfl] at hm;refine dK k1 k2 ?_;refine zW [] [1] ho ?_;refine zC hm ?_;exact ak [] hQ
 · obtain ⟨m,rfl⟩:∃m:Nat,n=(m:Int):=⟨n.natAbs,by omega⟩
   have ho:=dV (x:=m) zo;have hm:=cu (b:=false) (n:=m) (agI (cK zo) zd);rw[show sg false m=(m:Int) from rfl] at hm;refine ae ?_;refine zW [] [1] ho ?_;refine zC hm ?_;exact ak [] hQ
def pz (x y:Int):Int:=if x<y then-1 else if y<x then 1 else 0
theorem KL {x y:Int} (hx:(wg x.natAbs).length≤4000000) (hy:(wg y.natAbs).length≤4000000):aC Tryz.prog 181 [WV x,WV y] [] (.lit (.int .i64 (pz x y))) []:=by
 refine zF pl Tryz.call181 Tryz.func181 [.tmp 4] fun Q hQ=>?_
 by_cases h1:x<0
 · by_cases h2:y<0
   · have hc:=eR (a:=y.natAbs) (b:=x.natAbs) hy hx
     have e:gU y.natAbs x.natAbs=pz x y:=by unfold gU pz;repeat' split<;>omega
     rw[e] at hc;refine dK (agC h1) (agC h2) ?_;refine zC hc ?_;exact ak [] hQ
   · have e:pz x y= -1:=by unfold pz;rw[if_pos zo]
     rw[e] at hQ;refine dK (agC h1) (agq h2) ?_;exact ak [] hQ
 · by_cases h2:y<0
   · have e:pz x y=1:=by unfold pz;rw[if_neg zo,if_pos zo]
     rw[e] at hQ;refine dK (agq h1) (agC h2) ?_;exact ak [] hQ
   · have hc:=eR (a:=x.natAbs) (b:=y.natAbs) hx hy
     have e:gU x.natAbs y.natAbs=pz x y:=by unfold gU pz;repeat' split<;>omega
     rw[e] at hc;refine dK (agq h1) (agq h2) ?_;refine zC hc ?_;exact ak [] hQ
theorem IZ {x y:Int} (hx:(wg x.natAbs).length≤1000000) (hy:(wg y.natAbs).length≤1000000):aC Tryz.prog 200 [WV x,WV y] [] (WV (x+y)) []:=by
 have hla:(wg (x.natAbs+y.natAbs)).length≤1000001:=ia (B:=18446744073709551616) zd hx hy;have hm:=fun b n (h:n≤x.natAbs+y.natAbs)=>cu (b:=b) (n:=n) (agI (cI h) (agI hla zd));refine zF L4 Tryz.call200 Tryz.func200 [.cell 4 232] fun Q hQ=>?_
 by_cases h1:x<0
 · by_cases h2:y<0
   · have hb:sg true (x.natAbs+y.natAbs)=x+y:=by simp only[sg,if_true];omega
     have hm:=hm true _ (agt _);rw[hb] at hm;refine dK (agC h1) (agC h2) ?_;refine zC (gh (a:=x.natAbs) (b:=y.natAbs) zo zo) ?_;refine zC hm ?_;exact ak [] hQ
   · by_cases h3:y.natAbs≤x.natAbs
     · have hb:sg true (x.natAbs-y.natAbs)=x+y:=by simp only[sg,if_true];omega
       have hm:=hm true (x.natAbs-y.natAbs) zo;rw[hb] at hm;refine dK (agC h1) (agq h2) ?_;refine zC (i5 (a:=x.natAbs) (b:=y.natAbs) h3 zo) ?_;refine zC hm ?_;exact ak [] hQ
     · have hb:sg false (y.natAbs-x.natAbs)=x+y:=by simp only[sg,ahg,if_false];omega
       have hm:=hm false (y.natAbs-x.natAbs) zo;rw[hb] at hm;refine dK (agC h1) (agq h2) ?_;refine zC (p7 (a:=x.natAbs) (b:=y.natAbs) zo zo zo) ?_;refine zC (i5 (a:=y.natAbs) (b:=x.natAbs) zo zo) ?_;refine zC hm ?_;exact ak [] hQ
 · by_cases h2:y<0
   · by_cases h3:y.natAbs≤x.natAbs
     · have hb:sg false (x.natAbs-y.natAbs)=x+y:=by simp only[sg,ahg,if_false];omega
       have hm:=hm false (x.natAbs-y.natAbs) zo;rw[hb] at hm;refine dK (agq h1) (agC h2) ?_;refine zC (i5 (a:=x.natAbs) (b:=y.natAbs) h3 zo) ?_;refine zC hm ?_;exact ak [] hQ
     · have hb:sg true (y.natAbs-x.natAbs)=x+y:=by simp only[sg,if_true];omega
       have hm:=hm true (y.natAbs-x.natAbs) zo;rw[hb] at hm;refine dK (agq h1) (agC h2) ?_;refine zC (p7 (a:=x.natAbs) (b:=y.natAbs) zo zo zo) ?_;refine zC (i5 (a:=y.natAbs) (b:=x.natAbs) zo zo) ?_;refine zC hm ?_;exact ak [] hQ
   · have hb:sg false (x.natAbs+y.natAbs)=x+y:=by simp only[sg,ahg,if_false];omega
     have hm:=hm false _ (agt _);rw[hb] at hm;refine dK (agq h1) (agq h2) ?_;refine zC (gh (a:=x.natAbs) (b:=y.natAbs) zo zo) ?_;refine zC hm ?_;exact ak [] hQ
theorem MZ (b c:Bool) (m n:Nat):sg (!(b==c)) (m*n)=sg b m*sg c n:=by
 cases b<;>cases c<;>simp[sg,Int.neg_mul,Int.mul_neg]
theorem oG {x y:Int} (hx:(wg x.natAbs).length≤1000000) (hy:(wg y.natAbs).length≤1000000):aC Tryz.prog 182 [WV x,WV y] [] (WV (x*y)) []:=by
 have hla:(wg (x.natAbs*y.natAbs)).length≤2000000:=agI (ib (B:=18446744073709551616) zd _ _) (Nat.add_le_add hx hy);have hm:=cu (b:= !(decide (x<0)==decide (y<0))) (n:=x.natAbs*y.natAbs) zo;rw[MZ,kN,kN] at hm;refine zF Mh Tryz.call182 Tryz.func182 [.cell 4 232] fun Q hQ=>?_;refine ae ?_;refine zC (z7 (a:=x.natAbs) (b:=y.natAbs) hx hy) ?_;refine zC hm ?_;exact ak [] hQ
theorem wk {X Y:Nat} (hY:Y≠0):((X:Int)/(Y:Int)=((X/Y:Nat):Int))∧((X:Int)%(Y:Int)=((X%Y:Nat):Int)):=⟨by simp,by simp⟩
theorem sD {X Y:Nat} (hY:Y≠0) (h:X%Y=0):(-(X:Int)/(Y:Int)= -((X/Y:Nat):Int))∧(-(X:Int)%(Y:Int)=0):=by
 have hd:=agT X Y;refine(Int.ediv_emod_unique zo).2 ⟨?_,by omega,by omega⟩;rw[h,ahA] at hd
 conv=>rhs;rw[←hd]
 rw[Int.mul_neg,Int.natCast_mul];omega
theorem CM {X Y:Nat} (hY:Y≠0) (h:X%Y≠0):(-(X:Int)/(Y:Int)= -((X/Y+1:Nat):Int))∧(-(X:Int)%(Y:Int)=((Y-X%Y:Nat):Int)):=by
 have hd:=agT X Y;have hm:=agJ X (ai0 hY);refine(Int.ediv_emod_unique zo).2 ⟨?_,by omega,by omega⟩
 conv=>rhs;rw[←hd]
 generalize X%Y=r at*
 generalize X/Y=q at*
 rw[Int.mul_neg,Int.natCast_add,Int.natCast_add,Int.natCast_mul,Int.mul_add];generalize (Y:Int)*(q:Int)=u;omega
theorem GS (x:Int) (c:Bool) (Y:Nat):x/sg c Y=(if c then-(x/(Y:Int)) else x/(Y:Int))∧x%sg c Y=x%(Y:Int):=by
 cases c<;>simp[sg,Int.ediv_neg,Int.emod_neg]
theorem Ko {x y:Int} (hy0:y≠0) (hx:(wg x.natAbs).length≤999998) (hy:(wg y.natAbs).length≤999998):aC Tryz.prog 185 [WV x,WV y] [] (.tup [WV (x/y),WV (x%y),.lit (.int .i64 0)]) []:=by
 have hY:y.natAbs≠0:=by omega
 have hs:=GS x (decide (y<0)) y.natAbs;rw[kN] at hs;have hql:(wg (x.natAbs/y.natAbs)).length≤999998:=agI (cI (ahv _ _)) hx;have h1l:(wg 1).length≤999998:=agI (cK zd) zd;have hql1:(wg (x.natAbs/y.natAbs+1)).length≤999999:=ia (B:=18446744073709551616) zd hql h1l;have hmod:=agJ x.natAbs (ai0 hY);have hrl:(wg (x.natAbs%y.natAbs)).length≤999998:=agI (cI zo) hy;have hrl1:(wg (y.natAbs-x.natAbs%y.natAbs)).length≤999998:=agI (cI zo) hy;have ho:=dV (x:=1) zd;have hdv:=oQ (a:=x.natAbs) (b:=y.natAbs) hY zo zo;have hp:=wk (X:=x.natAbs) hY;have hn0:=fun h=>sD (X:=x.natAbs) (Y:=y.natAbs) hY h;have hn1:=fun h=>CM (X:=x.natAbs) (Y:=y.natAbs) hY h;have hxs:=kN x;generalize x.natAbs/y.natAbs=q at*
 generalize x.natAbs%y.natAbs=r at*
 have hmq:=fun b=>cu (b:=b) (n:=q) zo;have hmq1:=fun b=>cu (b:=b) (n:=q+1) zo;have hmr:=cu (b:=false) (n:=r) zo;have hmr1:=cu (b:=false) (n:=y.natAbs-r) zo;rw[show sg false r=(r:Int) from rfl] at hmr;rw[show sg false (y.natAbs-r)=((y.natAbs-r:Nat):Int) from rfl] at hmr1;refine zF Hc Tryz.call185 Tryz.func185 [.cell 4 232,.cell 5 232,.tmp 6] fun Q hQ=>?_;rw[hs.1,hs.2] at hQ;refine ae ?_;refine az (hdv) rfl rfl ?_
 by_cases h:x<0
 · have hxe:x= -(x.natAbs:Int):=by omega
   rw[←hxe] at hn0 hn1
   by_cases hr:r=0
   · rw[(hn0 hr).1,(hn0 hr).2] at hQ
     have e:(if decide (y<0)=true then-(-(q:Int)) else-(q:Int))=sg (!decide (y<0)) q:=by cases decide (y<0)<;>simp[sg]
     have e0:WV 0=WV ((r:Nat):Int):=by rw[hr];rfl
     rw[e,e0] at hQ;refine bh (agC h) ?_;refine az (du (n:=r) zo) rfl rfl ?_;rw[agC hr];refine ae ?_;refine zC (hmq (!decide (y<0))) ?_;refine zC hmr ?_;exact ak [] hQ
   · rw[(hn1 hr).1,(hn1 hr).2] at hQ
     have e:(if decide (y<0)=true then-(-((q+1:Nat):Int)) else-((q+1:Nat):Int))=sg (!decide (y<0)) (q+1):=by cases decide (y<0)<;>simp[sg]<;>omega
     rw[e] at hQ;refine bh (agC h) ?_;refine az (du (n:=r) zo) rfl rfl ?_;rw[agq hr];refine ae ?_;refine zW [] [6] ho ?_;refine zC (gh (a:=q) (b:=1) zo zo) ?_;refine zC (i5 (a:=y.natAbs) (b:=r) zo zo) ?_;refine zC (hmq1 (!decide (y<0))) ?_;refine zC hmr1 ?_;exact ak [] hQ
 · have hxe:x=(x.natAbs:Int):=by omega
   rw[←hxe] at hp;rw[hp.1,hp.2] at hQ;have e:(if decide (y<0)=true then-(q:Int) else(q:Int))=sg (decide (y<0)) q:=by cases decide (y<0)<;>simp[sg]
   rw[e] at hQ;refine bh (agq h) ?_;refine zC (hmq (decide (y<0))) ?_;refine zC hmr ?_;exact ak [] hQ
def RV (x:Rat):V:=.agg [.row 1 ((nl (wg x.num.natAbs)).map (ie .u64)),.lit (.bool (decide (x.num<0))),.row 1 ((nl (wg (x.den-1))).map (ie .u64))]
attribute [go_sem] RV
def RS (k:Nat) (x:Rat):Prop:=(wg x.num.natAbs).length≤k∧(wg x.den).length≤k
theorem RS.mono {k l:Nat} {x:Rat} (h:RS k x) (hk:k≤l):RS l x:=⟨agI h.1 hk,agI h.2 hk⟩
theorem Nb {b:Bool} {X g:Nat} (hg:g≠0) (hd:X%g=0):sg b X/(g:Int)=sg b (X/g):=by
 cases b
 · exact(wk hg).1
 · exact(sD hg hd).1
theorem er {n:Int} {d:Nat} (hd:d≠0):(mkRat n d).num=sg (decide (n<0)) (n.natAbs/Nat.gcd n.natAbs d):=by
 have hg:Nat.gcd n.natAbs d≠0:=fun e=>hd (Nat.gcd_eq_zero_iff.1 e).2;rw[Rat.num_mkRat,if_neg hd,Nat.gcd_comm];have h:=Nb (b:=decide (n<0)) hg (Nat.mod_eq_zero_of_dvd (aiO n.natAbs d))
 rwa [kN] at h
theorem gI {n:Int} {d:Nat} (hd:d≠0):(mkRat n d).den=d/Nat.gcd n.natAbs d:=by
 rw[Rat.den_mkRat,if_neg hd,Nat.gcd_comm]
theorem LC {n:Int} {d k:Nat} (hd:d≠0) (h1:(wg n.natAbs).length≤k) (h2:(wg d).length≤k):RS k (mkRat n d):=by
 constructor
 · rw[er hd,jQ]
   exact agI (cI (ahv _ _)) h1
 · rw[gI hd]
   exact agI (cI (ahv _ _)) h2
theorem wX {n:Int} {d:Nat} (hd:d≠0) (h1:(wg n.natAbs).length≤1000000) (h2:(wg d).length≤1000000):aC Tryz.prog 163 [WV n,NV d] [] (RV (mkRat n d)) []:=by
 have hg:Nat.gcd n.natAbs d≠0:=fun e=>hd (Nat.gcd_eq_zero_iff.1 e).2;have hgl:(wg (Nat.gcd n.natAbs d)).length≤1000000:=agI (cI (Nat.gcd_le_right _ zo)) h2;have hgd:=Nat.gcd_le_right n.natAbs (show 0<d by omega);have hgc:=H7 (a:=n.natAbs) (b:=d) h1 h2;have hq:1≤d/Nat.gcd n.natAbs d:=(Nat.one_le_div_iff zo).2 hgd;have ho:=dV (x:=1) zd;have hab:=oQ (a:=n.natAbs) (b:=Nat.gcd n.natAbs d) hg h1 hgl;have hbe:=oQ (a:=d) (b:=Nat.gcd n.natAbs d) hg h2 hgl;have hal:(wg (n.natAbs/Nat.gcd n.natAbs d)).length≤1000000:=agI (cI (ahv _ _)) h1;have hbl:(wg (d/Nat.gcd n.natAbs d)).length≤1000000:=agI (cI (ahv _ _)) h2;refine zF uU Tryz.call163 Tryz.func163 [.cell 4 234] fun Q hQ=>?_;unfold RV at hQ;rw[er hd,gI hd] at hQ;generalize Nat.gcd n.natAbs d=g at*
 generalize n.natAbs/g=a at*
 generalize d/g=b at*
 generalize n.natAbs%g=ra at*
 generalize d%g=rb at*
 have hm:=cu (b:=decide (n<0)) (n:=a) zo;have hsub:=i5 (a:=b) (b:=1) hq zo;refine ae ?_;refine zC (jj (z:=n)) ?_;refine zC hgc ?_;refine zC (jj (z:=n)) ?_;refine zC hab ?_;refine zC hbe ?_;refine zW [] [8] ho ?_;refine zC hsub ?_;refine zC (oM (z:=n)) ?_;refine zC hm ?_;exact ak [] hQ
theorem xh (z:Int):RV (z:Rat)=.agg [.row 1 ((nl (wg z.natAbs)).map (ie .u64)),.lit (.bool (decide (z<0))),.row 1 []]:=by
 unfold RV;rw[Rat.num_intCast,Rat.den_intCast,show 1-1=0 from rfl,ej]
 rfl
theorem HB {n:Int} (h0: -9223372036854775808≤n) (h1:n≤9223372036854775807):aC Tryz.prog 166 [.lit (.int .i64 n)] [] (RV (n:Rat)) []:=by
 rw[xh];refine zF pl Tryz.call166 Tryz.func166 [.cell 2 234] fun Q hQ=>?_;refine ae ?_;refine zC (M5 h0 h1) ?_;exact ak [] hQ
theorem IS {n:Nat} (hn:(wg n).length≤4000000):aC Tryz.prog 169 [NV n] [] (RV ((n:Int):Rat)) []:=by
 have hm:=cu (b:=false) (n:=n) hn;rw[show sg false n=(n:Int) from rfl] at hm;rw[xh];refine zF pl Tryz.call169 Tryz.func169 [.cell 2 234] fun Q hQ=>?_;refine ae ?_;refine zC hm ?_;exact ak [] hQ
theorem J8 {x:Rat}:aC Tryz.prog 188 [RV x] [] (WV x.num) []:=by
 refine zF pl Tryz.call188 Tryz.func188 [.cell 2 232] fun Q hQ=>?_;exact zE [] hQ
theorem oJ {x:Rat} (h:(wg x.den).length≤1999999):aC Tryz.prog 190 [RV x] [] (NV x.den) []:=by
 have ho:=dV (x:=1) zd;have hd:=x.den_nz;have hl:(wg (x.den-1)).length≤1999999:=agI (cI zo) h;have ha:=gh (a:=x.den-1) (b:=1) zo (agI (cK zd) zd);rw[show x.den-1+1=x.den by omega] at ha;refine zF La Tryz.call190 Tryz.func190 [.cell 2 157] fun Q hQ=>?_;refine ae ?_;refine zW [] [2] ho ?_;refine zC ha ?_;exact ak [] hQ
theorem jI {x:Rat} (h:(wg x.den).length≤1999999):aC Tryz.prog 183 [RV x] [] (WV (x.den:Int)) []:=by
 have hm:=cu (b:=false) (n:=x.den) zo;rw[show sg false x.den=(x.den:Int) from rfl] at hm;refine zF pl Tryz.call183 Tryz.func183 [.cell 2 232] fun Q hQ=>?_;refine ae ?_;refine zC (oJ (x:=x) h) ?_;refine zC hm ?_;exact ak [] hQ
def zB (x y:Rat):Int:=if x<y then-1 else if y<x then 1 else 0
theorem Ji (x y:Rat):pz (x.num*y.den) (y.num*x.den)=zB x y:=by
 unfold pz zB;simp only[Rat.lt_iff]
theorem fB {x y:Int} {k l:Nat} (hx:(wg x.natAbs).length≤k) (hy:(wg y.natAbs).length≤l):(wg (x*y).natAbs).length≤k+l:=by
 rw[Int.natAbs_mul];exact agI (ib (B:=18446744073709551616) zd _ _) (Nat.add_le_add hx hy)
theorem uE {x y:Int} {k:Nat} (hx:(wg x.natAbs).length≤k) (hy:(wg y.natAbs).length≤k):(wg (x+y).natAbs).length≤k+1:=
 agI (cI (Int.natAbs_add_le x y)) (ia (B:=18446744073709551616) zd hx hy)
theorem zS {x y:Rat} (hx:RS 400000 x) (hy:RS 400000 y):aC Tryz.prog 165 [RV x,RV y] [] (.lit (.int .i64 (zB x y))) []:=by
 obtain ⟨hx1,hx2⟩:=hx;obtain ⟨hy1,hy2⟩:=hy;have hm1:=oG (x:=x.num) (y:=(y.den:Int)) zo (by simp only[ahe];omega);have hm2:=oG (x:=y.num) (y:=(x.den:Int)) zo (by simp only[ahe];omega);have hl1:=fB (x:=x.num) (y:=(y.den:Int)) hx1 (by simp only[ahe];exact hy2);have hl2:=fB (x:=y.num) (y:=(x.den:Int)) hy1 (by simp only[ahe];exact hx2);have hc:=KL (x:=x.num*y.den) (y:=y.num*x.den) zo zo;rw[Ji] at hc;refine zF Mm Tryz.call165 Tryz.func165 [.tmp 4] fun Q hQ=>?_;refine ae ?_;refine zC (jI (x:=y) zo) ?_;refine zC hm1 ?_;refine zC (jI (x:=x) zo) ?_;refine zC hm2 ?_;refine zC hc ?_;exact ak [] hQ
theorem oK {p q:Int} (hq:q≠0):mkRat (sg (!(decide (p<0)==decide (q<0))) p.natAbs) q.natAbs=(p:Rat)/(q:Rat):=by
 rw[←Rat.divInt_eq_div];have hp:=kN p
 by_cases h:q<0
 · obtain ⟨m,rfl⟩:∃m:Nat,q= -(m:Int):=⟨q.natAbs,by omega⟩
   rw[Rat.divInt_neg',Rat.divInt_ofNat,agC h]
   congr 1
   · cases hb:decide (p<0)
     · rw[hb] at hp;simp[sg] at hp ⊢;omega
     · rw[hb] at hp;simp[sg] at hp ⊢;omega
   · omega
 · obtain ⟨m,rfl⟩:∃m:Nat,q=(m:Int):=⟨q.natAbs,by omega⟩
   rw[Rat.divInt_ofNat,agq h]
   congr 1
   cases hb:decide (p<0)
   · rw[hb] at hp;simp[sg] at hp ⊢;omega
   · rw[hb] at hp;simp[sg] at hp ⊢;omega
theorem KG:RV 0=.agg [.row 1 [],.lit (.bool false),.row 1 []]:=by
 have:=xh 0
 rw[show((0:Int):Rat)=0 from rfl,show(0:Int).natAbs=0 from rfl,ej] at this;exact this
theorem FD {p q:Int} (hq:q≠0) (h1:(wg p.natAbs).length≤1000000) (h2:(wg q.natAbs).length≤1000000):aC Tryz.prog 132 [WV p,WV q] [] (.tup [RV ((p:Rat)/(q:Rat)),.lit (.int .i64 0)]) []:=by
 have hm:=cu (b:= !(decide (p<0)==decide (q<0))) (n:=p.natAbs) zo;have hr:=wX (n:=sg (!(decide (p<0)==decide (q<0))) p.natAbs) (d:=q.natAbs) zo (by rw[jQ];exact h1) h2;rw[oK hq] at hr;refine zF LI Tryz.call132 Tryz.func132 [.cell 4 234,.tmp 5] fun Q hQ=>?_;refine ae ?_;refine zC (jj (z:=q)) ?_;refine az (du (n:=q.natAbs) zo) rfl rfl ?_;rw[agq (show¬q.natAbs=0 by omega)];refine ae ?_;refine zC (oM (z:=p)) ?_;refine zC (oM (z:=q)) ?_;refine zC (jj (z:=p)) ?_;refine zC hm ?_;refine zC (jj (z:=q)) ?_;refine zC hr ?_;exact ak [] hQ
theorem Nk {p:Int} (h0: -9223372036854775808≤p) (h1:p≤9223372036854775807):(wg p.natAbs).length≤1:=cK zo
theorem N8 {k l:Nat} {x y:Rat} (hx:RS k x) (hy:RS l y):RS (k+l+1) (x+y):=by
 rw[Rat.add_def'];refine LC (Nat.mul_ne_zero x.den_nz y.den_nz) ?_ (agI (ib (B:=18446744073709551616) zd _ _) (by have:=hx.2;have:=hy.2;unfold wg at*;omega));have a:=fB (x:=x.num) (y:=(y.den:Int)) hx.1 (by simp only[ahe];exact hy.2);have b:=fB (x:=y.num) (y:=(x.den:Int)) hy.1 (by simp only[ahe];exact hx.2);exact uE a zo
theorem Ey {k:Nat} {x:Rat} (hx:RS k x):RS k (-x):=by
 unfold RS;rw[Rat.neg_num,Rat.neg_den,Int.natAbs_neg];exact hx
theorem Gg {k l:Nat} {x y:Rat} (hx:RS k x) (hy:RS l y):RS (k+l+1) (x-y):=by
 rw[Rat.sub_eq_add_neg];exact N8 hx (Ey hy)
theorem qQ {z:Int} {k:Nat} (h:(wg z.natAbs).length≤k) (hk:1≤k):RS k (z:Rat):=by
 constructor
 · rw[Rat.num_intCast];exact h
 · rw[Rat.den_intCast];exact agI (cK zd) hk
theorem Kq {x y:Rat} (hx:RS 400000 x) (hy:RS 400000 y):aC Tryz.prog 186 [RV x,RV y] [] (RV (x+y)) []:=by
 obtain ⟨hx1,hx2⟩:=hx;obtain ⟨hy1,hy2⟩:=hy;have hm1:=oG (x:=x.num) (y:=(y.den:Int)) zo (by simp only[ahe];omega);have hm2:=oG (x:=y.num) (y:=(x.den:Int)) zo (by simp only[ahe];omega);have hl1:=fB (x:=x.num) (y:=(y.den:Int)) hx1 (by simp only[ahe];exact hy2);have hl2:=fB (x:=y.num) (y:=(x.den:Int)) hy1 (by simp only[ahe];exact hx2);have hl3:=uE hl1 hl2;have hl4:(wg (x.den*y.den)).length≤800000:=agI (ib (B:=18446744073709551616) zd _ _) (by unfold wg at*;omega);have ha:=IZ (x:=x.num*y.den) (y:=y.num*x.den) zo zo;have hmd:=z7 (a:=x.den) (b:=y.den) zo zo;have hr:=wX (n:=x.num*y.den+y.num*x.den) (d:=x.den*y.den) (Nat.mul_ne_zero x.den_nz y.den_nz) zo zo;rw[←Rat.add_def'] at hr;refine zF Me Tryz.call186 Tryz.func186 [.cell 4 234] fun Q hQ=>?_;refine ae ?_;refine zC (jI (x:=y) zo) ?_;refine zC hm1 ?_;refine zC (jI (x:=x) zo) ?_;refine zC hm2 ?_;refine zC ha ?_;refine zC (oJ (x:=x) zo) ?_;refine zC (oJ (x:=y) zo) ?_;refine zC hmd ?_;refine zC hr ?_;exact ak [] hQ
theorem JA {x y:Rat} (hx:RS 400000 x) (hy:RS 400000 y):aC Tryz.prog 168 [RV x,RV y] [] (RV (x-y)) []:=by
 have hw:=Bp (z:=y.num) (by have:=hy.1;omega);have ha:=Kq (x:=x) (y:=-y) hx (Ey hy);rw[←Rat.sub_eq_add_neg] at ha;rw[show RV (-y)=.agg [.row 1 ((nl (wg (-y.num).natAbs)).map (ie .u64)),.lit (.bool (decide (-y.num<0))),.row 1 ((nl (wg (y.den-1))).map (ie .u64))] from rfl] at ha;refine zF Mq Tryz.call168 Tryz.func168 [.cell 4 234] fun Q hQ=>?_;refine ae ?_;refine zC hw ?_;refine zC ha ?_;exact ak [] hQ
end Go.Proofs.YtcnlmelpnflhnaaGreat
