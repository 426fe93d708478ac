import Derived.Test.YtcnlmelpnflhnaaGreatD3
namespace Go.Proofs.YtcnlmelpnflhnaaGreat
open Go.Eng Go.Vx
set_option linter.unusedSimpArgs false
set_option linter.unusedVariables false
set_option maxRecDepth 100000
def sg (b:Bool) (n:Nat):Int:=if b then-(n:Int) else n
theorem kB (b:Bool) (n:Nat):(sg b n).natAbs=n:=by cases b<;>simp[sg]
theorem PG (b:Bool) (n:Nat):decide (sg b n<0)=(b&&!decide (n=0)):=by
 by_cases h:n=0
 · subst h;cases b<;>simp[sg]
 · cases b<;>simp[sg,h]<;>omega
theorem lS (z:Int):sg (decide (z<0)) z.natAbs=z:=by
 by_cases h:z<0
 · rw[aju h];simp only[sg,if_true];omega
 · rw[ajn h];simp only[sg,akg,if_false];omega
def WV (z:Int):V:=.agg [.row 1 ((nl (wg z.natAbs)).map (ie .u64)),.lit (.bool (decide (z<0)))]
attribute [go_sem] WV
theorem Xl (b:Bool) (n:Nat):WV (sg b n)=.agg [.row 1 ((nl (wg n)).map (ie .u64)),.lit (.bool (b&&!decide (n=0)))]:=by
 unfold WV;rw[kB,PG]
theorem cK {b:Bool} {n:Nat} (hn:(wg n).length≤4000000):aA Tryz.prog 133 [.lit (.bool b),NV n] [] (WV (sg b n)) []:=by
 rw[Xl];refine zF O0 Tryz.call133 Tryz.func133 [.cell 4 232] fun Q hQ=>?_
 cases b with
 | false=>
   rw[alz] at hQ;exact zE [] hQ
 | true=>
   rw[akD] at hQ;refine ae ?_;refine zC (dM (n:=n) hn) ?_;exact ak [] hQ
theorem p7 {z:Int}:aA Tryz.prog 164 [WV z] [] (.lit (.bool (decide (z<0)))) []:=by
 refine zF pl Tryz.call164 Tryz.func164 [.tmp 2] fun Q hQ=>?_;exact zE [] hQ
theorem jQ {z:Int}:aA Tryz.prog 161 [WV z] [] (NV z.natAbs) []:=by
 refine zF pl Tryz.call161 Tryz.func161 [.cell 2 157] fun Q hQ=>?_;exact zE [] hQ
theorem DA {z:Int} (hz:(wg z.natAbs).length≤4000000):aA Tryz.prog 187 [WV z] [] (WV (-z)) []:=by
 refine zF pl Tryz.call187 Tryz.func187 [.cell 2 232] fun Q hQ=>?_;have hm:=cK (b:= !decide (z<0)) (n:=z.natAbs) hz
 have e:sg (!decide (z<0)) z.natAbs= -z:=by
  by_cases h:z<0
  · rw[aju h];simp only[sg,ali,akg,if_false];omega
  · rw[ajn h];simp only[sg,aly,if_true];omega
 rw[e] at hm;refine ae ?_;refine zC hm ?_;exact ak [] hQ
theorem PS {n:Int} (h0: -9223372036854775808≤n) (h1:n≤9223372036854775807):aA Tryz.prog 184 [.lit (.int .i64 n)] [] (WV n) []:=by
 refine zF pl Tryz.call184 Tryz.func184 [.cell 2 232] fun Q hQ=>?_
 by_cases h:n<0
 · obtain ⟨m,rfl⟩:∃m:Nat,n= -(m:Int):=⟨n.natAbs,by omega⟩
   have k1:IntKind.u64.wrap (-(m:Int))=18446744073709551616-(m:Int):=by simp[IntKind.wrap,IntKind.bits,IntKind.signed];omega
   have k2:IntKind.u64.wrap (0-(18446744073709551616-(m:Int)))=(m:Int):=by simp[IntKind.wrap,IntKind.bits,IntKind.signed];omega
   have ho:=eG (x:=m) zo;have hm:=cK (b:=true) (n:=m) (ajD (di zo) zd);rw[show sg true m= -(m:Int) from rfl] at hm;refine ej k1 k2 ?_;refine zW [] [1] ho ?_;refine zC hm ?_;exact ak [] hQ
 · obtain ⟨m,rfl⟩:∃m:Nat,n=(m:Int):=⟨n.natAbs,by omega⟩
   have ho:=eG (x:=m) zo;have hm:=cK (b:=false) (n:=m) (ajD (di zo) zd);rw[show sg false m=(m:Int) from rfl] at hm;refine ae ?_;refine zW [] [1] ho ?_;refine zC hm ?_;exact ak [] hQ
def qG (x y:Int):Int:=if x<y then-1 else if y<x then 1 else 0
theorem Nh {x y:Int} (hx:(wg x.natAbs).length≤4000000) (hy:(wg y.natAbs).length≤4000000):aA Tryz.prog 181 [WV x,WV y] [] (.lit (.int .i64 (qG x y))) []:=by
 refine zF pl Tryz.call181 Tryz.func181 [.tmp 4] fun Q hQ=>?_
 by_cases h1:x<0
 · by_cases h2:y<0
   · have hc:=fq (a:=y.natAbs) (b:=x.natAbs) hy hx
     have e:iI y.natAbs x.natAbs=qG x y:=by unfold iI qG;repeat' split<;>omega
     rw[e] at hc;refine ej (aju h1) (aju h2) ?_;refine zC hc ?_;exact ak [] hQ
   · have e:qG x y= -1:=by unfold qG;rw[if_pos zo]
     rw[e] at hQ;refine ej (aju h1) (ajn h2) ?_;exact ak [] hQ
 · by_cases h2:y<0
   · have e:qG x y=1:=by unfold qG;rw[if_neg zo,if_pos zo]
     rw[e] at hQ;refine ej (ajn h1) (aju h2) ?_;exact ak [] hQ
   · have hc:=fq (a:=x.natAbs) (b:=y.natAbs) hx hy
     have e:iI x.natAbs y.natAbs=qG x y:=by unfold iI qG;repeat' split<;>omega
     rw[e] at hc;refine ej (ajn h1) (ajn h2) ?_;refine zC hc ?_;exact ak [] hQ
theorem Lu {x y:Int} (hx:(wg x.natAbs).length≤1000000) (hy:(wg y.natAbs).length≤1000000):aA Tryz.prog 200 [WV x,WV y] [] (WV (x+y)) []:=by
 have hla:(wg (x.natAbs+y.natAbs)).length≤1000001:=iQ (B:=18446744073709551616) zd hx hy;have hm:=fun b n (h:n≤x.natAbs+y.natAbs)=>cK (b:=b) (n:=n) (ajD (df h) (ajD hla zd));refine zF OH Tryz.call200 Tryz.func200 [.cell 4 232] fun Q hQ=>?_
 by_cases h1:x<0
 · by_cases h2:y<0
   · have hb:sg true (x.natAbs+y.natAbs)=x+y:=by simp only[sg,if_true];omega
     have hm:=hm true _ (ajp _);rw[hb] at hm;refine ej (aju h1) (aju h2) ?_;refine zC (gS (a:=x.natAbs) (b:=y.natAbs) zo zo) ?_;refine zC hm ?_;exact ak [] hQ
   · by_cases h3:y.natAbs≤x.natAbs
     · have hb:sg true (x.natAbs-y.natAbs)=x+y:=by simp only[sg,if_true];omega
       have hm:=hm true (x.natAbs-y.natAbs) zo;rw[hb] at hm;refine ej (aju h1) (ajn h2) ?_;refine zC (jB (a:=x.natAbs) (b:=y.natAbs) h3 zo) ?_;refine zC hm ?_;exact ak [] hQ
     · have hb:sg false (y.natAbs-x.natAbs)=x+y:=by simp only[sg,akg,if_false];omega
       have hm:=hm false (y.natAbs-x.natAbs) zo;rw[hb] at hm;refine ej (aju h1) (ajn h2) ?_;refine zC (ry (a:=x.natAbs) (b:=y.natAbs) zo zo zo) ?_;refine zC (jB (a:=y.natAbs) (b:=x.natAbs) zo zo) ?_;refine zC hm ?_;exact ak [] hQ
 · by_cases h2:y<0
   · by_cases h3:y.natAbs≤x.natAbs
     · have hb:sg false (x.natAbs-y.natAbs)=x+y:=by simp only[sg,akg,if_false];omega
       have hm:=hm false (x.natAbs-y.natAbs) zo;rw[hb] at hm;refine ej (ajn h1) (aju h2) ?_;refine zC (jB (a:=x.natAbs) (b:=y.natAbs) h3 zo) ?_;refine zC hm ?_;exact ak [] hQ
     · have hb:sg true (y.natAbs-x.natAbs)=x+y:=by simp only[sg,if_true];omega
       have hm:=hm true (y.natAbs-x.natAbs) zo;rw[hb] at hm;refine ej (ajn h1) (aju h2) ?_;refine zC (ry (a:=x.natAbs) (b:=y.natAbs) zo zo zo) ?_;refine zC (jB (a:=y.natAbs) (b:=x.natAbs) zo zo) ?_;refine zC hm ?_;exact ak [] hQ
   · have hb:sg false (x.natAbs+y.natAbs)=x+y:=by simp only[sg,akg,if_false];omega
     have hm:=hm false _ (ajp _);rw[hb] at hm;refine ej (ajn h1) (ajn h2) ?_;refine zC (gS (a:=x.natAbs) (b:=y.natAbs) zo zo) ?_;refine zC hm ?_;exact ak [] hQ
theorem PO (b c:Bool) (m n:Nat):sg (!(b==c)) (m*n)=sg b m*sg c n:=by
 cases b<;>cases c<;>simp[sg,Int.neg_mul,Int.mul_neg]
theorem pV {x y:Int} (hx:(wg x.natAbs).length≤1000000) (hy:(wg y.natAbs).length≤1000000):aA Tryz.prog 182 [WV x,WV y] [] (WV (x*y)) []:=by
 have hla:(wg (x.natAbs*y.natAbs)).length≤2000000:=ajD (iR (B:=18446744073709551616) zd _ _) (Nat.add_le_add hx hy);have hm:=cK (b:= !(decide (x<0)==decide (y<0))) (n:=x.natAbs*y.natAbs) zo;rw[PO,lS,lS] at hm;refine zF OY Tryz.call182 Tryz.func182 [.cell 4 232] fun Q hQ=>?_;refine ae ?_;refine zC (Ch (a:=x.natAbs) (b:=y.natAbs) hx hy) ?_;refine zC hm ?_;exact ak [] hQ
theorem yx {X Y:Nat} (hY:Y≠0):((X:Int)/(Y:Int)=((X/Y:Nat):Int))∧((X:Int)%(Y:Int)=((X%Y:Nat):Int)):=⟨by simp,by simp⟩
theorem ui {X Y:Nat} (hY:Y≠0) (h:X%Y=0):(-(X:Int)/(Y:Int)= -((X/Y:Nat):Int))∧(-(X:Int)%(Y:Int)=0):=by
 have hd:=ajT X Y;refine(Int.ediv_emod_unique zo).2 ⟨?_,by omega,by omega⟩;rw[h,aky] at hd
 conv=>rhs;rw[←hd]
 rw[Int.mul_neg,Int.natCast_mul];omega
theorem EX {X Y:Nat} (hY:Y≠0) (h:X%Y≠0):(-(X:Int)/(Y:Int)= -((X/Y+1:Nat):Int))∧(-(X:Int)%(Y:Int)=((Y-X%Y:Nat):Int)):=by
 have hd:=ajT X Y;have hm:=ajI X (al1 hY);refine(Int.ediv_emod_unique zo).2 ⟨?_,by omega,by omega⟩
 conv=>rhs;rw[←hd]
 generalize X%Y=r at*
 generalize X/Y=q at*
 rw[Int.mul_neg,Int.natCast_add,Int.natCast_add,Int.natCast_mul,Int.mul_add];generalize (Y:Int)*(q:Int)=u;omega
theorem I0 (x:Int) (c:Bool) (Y:Nat):x/sg c Y=(if c then-(x/(Y:Int)) else x/(Y:Int))∧x%sg c Y=x%(Y:Int):=by
 cases c<;>simp[sg,Int.ediv_neg,Int.emod_neg]
theorem MW {x y:Int} (hy0:y≠0) (hx:(wg x.natAbs).length≤999998) (hy:(wg y.natAbs).length≤999998):aA Tryz.prog 185 [WV x,WV y] [] (.tup [WV (x/y),WV (x%y),.lit (.int .i64 0)]) []:=by
 have hY:y.natAbs≠0:=by omega
 have hs:=I0 x (decide (y<0)) y.natAbs;rw[lS] at hs;have hql:(wg (x.natAbs/y.natAbs)).length≤999998:=ajD (df (aks _ _)) hx;have h1l:(wg 1).length≤999998:=ajD (di zd) zd;have hql1:(wg (x.natAbs/y.natAbs+1)).length≤999999:=iQ (B:=18446744073709551616) zd hql h1l;have hmod:=ajI x.natAbs (al1 hY);have hrl:(wg (x.natAbs%y.natAbs)).length≤999998:=ajD (df zo) hy;have hrl1:(wg (y.natAbs-x.natAbs%y.natAbs)).length≤999998:=ajD (df zo) hy;have ho:=eG (x:=1) zd;have hdv:=qc (a:=x.natAbs) (b:=y.natAbs) hY zo zo;have hp:=yx (X:=x.natAbs) hY;have hn0:=fun h=>ui (X:=x.natAbs) (Y:=y.natAbs) hY h;have hn1:=fun h=>EX (X:=x.natAbs) (Y:=y.natAbs) hY h;have hxs:=lS x;generalize x.natAbs/y.natAbs=q at*
 generalize x.natAbs%y.natAbs=r at*
 have hmq:=fun b=>cK (b:=b) (n:=q) zo;have hmq1:=fun b=>cK (b:=b) (n:=q+1) zo;have hmr:=cK (b:=false) (n:=r) zo;have hmr1:=cK (b:=false) (n:=y.natAbs-r) zo;rw[show sg false r=(r:Int) from rfl] at hmr;rw[show sg false (y.natAbs-r)=((y.natAbs-r:Nat):Int) from rfl] at hmr1;refine zF Jj Tryz.call185 Tryz.func185 [.cell 4 232,.cell 5 232,.tmp 6] fun Q hQ=>?_;rw[hs.1,hs.2] at hQ;refine ae ?_;refine aB (hdv) rfl rfl ?_
 by_cases h:x<0
 · have hxe:x= -(x.natAbs:Int):=by omega
   rw[←hxe] at hn0 hn1
   by_cases hr:r=0
   · rw[(hn0 hr).1,(hn0 hr).2] at hQ
     have e:(if decide (y<0)=true then-(-(q:Int)) else-(q:Int))=sg (!decide (y<0)) q:=by cases decide (y<0)<;>simp[sg]
     have e0:WV 0=WV ((r:Nat):Int):=by rw[hr];rfl
     rw[e,e0] at hQ;refine br (aju h) ?_;refine aB (dM (n:=r) zo) rfl rfl ?_;rw[aju hr];refine ae ?_;refine zC (hmq (!decide (y<0))) ?_;refine zC hmr ?_;exact ak [] hQ
   · rw[(hn1 hr).1,(hn1 hr).2] at hQ
     have e:(if decide (y<0)=true then-(-((q+1:Nat):Int)) else-((q+1:Nat):Int))=sg (!decide (y<0)) (q+1):=by cases decide (y<0)<;>simp[sg]<;>omega
     rw[e] at hQ;refine br (aju h) ?_;refine aB (dM (n:=r) zo) rfl rfl ?_;rw[ajn hr];refine ae ?_;refine zW [] [6] ho ?_;refine zC (gS (a:=q) (b:=1) zo zo) ?_;refine zC (jB (a:=y.natAbs) (b:=r) zo zo) ?_;refine zC (hmq1 (!decide (y<0))) ?_;refine zC hmr1 ?_;exact ak [] hQ
 · have hxe:x=(x.natAbs:Int):=by omega
   rw[←hxe] at hp;rw[hp.1,hp.2] at hQ;have e:(if decide (y<0)=true then-(q:Int) else(q:Int))=sg (decide (y<0)) q:=by cases decide (y<0)<;>simp[sg]
   rw[e] at hQ;refine br (ajn h) ?_;refine zC (hmq (decide (y<0))) ?_;refine zC hmr ?_;exact ak [] hQ
def RV (x:Rat):V:=.agg [.row 1 ((nl (wg x.num.natAbs)).map (ie .u64)),.lit (.bool (decide (x.num<0))),.row 1 ((nl (wg (x.den-1))).map (ie .u64))]
attribute [go_sem] RV
def RS (k:Nat) (x:Rat):Prop:=(wg x.num.natAbs).length≤k∧(wg x.den).length≤k
theorem RS.mono {k l:Nat} {x:Rat} (h:RS k x) (hk:k≤l):RS l x:=⟨ajD h.1 hk,ajD h.2 hk⟩
theorem P0 {b:Bool} {X g:Nat} (hg:g≠0) (hd:X%g=0):sg b X/(g:Int)=sg b (X/g):=by
 cases b
 · exact(yx hg).1
 · exact(ui hg hd).1
theorem eR {n:Int} {d:Nat} (hd:d≠0):(mkRat n d).num=sg (decide (n<0)) (n.natAbs/Nat.gcd n.natAbs d):=by
 have hg:Nat.gcd n.natAbs d≠0:=fun e=>hd (Nat.gcd_eq_zero_iff.1 e).2;rw[Rat.num_mkRat,if_neg hd,Nat.gcd_comm];have h:=P0 (b:=decide (n<0)) hg (Nat.mod_eq_zero_of_dvd (alP n.natAbs d))
 rwa [lS] at h
theorem iw {n:Int} {d:Nat} (hd:d≠0):(mkRat n d).den=d/Nat.gcd n.natAbs d:=by
 rw[Rat.den_mkRat,if_neg hd,Nat.gcd_comm]
theorem N9 {n:Int} {d k:Nat} (hd:d≠0) (h1:(wg n.natAbs).length≤k) (h2:(wg d).length≤k):RS k (mkRat n d):=by
 constructor
 · rw[eR hd,kB]
   exact ajD (df (aks _ _)) h1
 · rw[iw hd]
   exact ajD (df (aks _ _)) h2
theorem yY {n:Int} {d:Nat} (hd:d≠0) (h1:(wg n.natAbs).length≤1000000) (h2:(wg d).length≤1000000):aA Tryz.prog 163 [WV n,NV d] [] (RV (mkRat n d)) []:=by
 have hg:Nat.gcd n.natAbs d≠0:=fun e=>hd (Nat.gcd_eq_zero_iff.1 e).2;have hgl:(wg (Nat.gcd n.natAbs d)).length≤1000000:=ajD (df (Nat.gcd_le_right _ zo)) h2;have hgd:=Nat.gcd_le_right n.natAbs (show 0<d by omega);have hgc:=Ku (a:=n.natAbs) (b:=d) h1 h2;have hq:1≤d/Nat.gcd n.natAbs d:=(Nat.one_le_div_iff zo).2 hgd;have ho:=eG (x:=1) zd;have hab:=qc (a:=n.natAbs) (b:=Nat.gcd n.natAbs d) hg h1 hgl;have hbe:=qc (a:=d) (b:=Nat.gcd n.natAbs d) hg h2 hgl;have hal:(wg (n.natAbs/Nat.gcd n.natAbs d)).length≤1000000:=ajD (df (aks _ _)) h1;have hbl:(wg (d/Nat.gcd n.natAbs d)).length≤1000000:=ajD (df (aks _ _)) h2;refine zF xd Tryz.call163 Tryz.func163 [.cell 4 234] fun Q hQ=>?_;unfold RV at hQ;rw[eR hd,iw hd] at hQ;generalize Nat.gcd n.natAbs d=g at*
 generalize n.natAbs/g=a at*
 generalize d/g=b at*
 generalize n.natAbs%g=ra at*
 generalize d%g=rb at*
 have hm:=cK (b:=decide (n<0)) (n:=a) zo;have hsub:=jB (a:=b) (b:=1) hq zo;refine ae ?_;refine zC (jQ (z:=n)) ?_;refine zC hgc ?_;refine zC (jQ (z:=n)) ?_;refine zC hab ?_;refine zC hbe ?_;refine zW [] [8] ho ?_;refine zC hsub ?_;refine zC (p7 (z:=n)) ?_;refine zC hm ?_;exact ak [] hQ
theorem zh (z:Int):RV (z:Rat)=.agg [.row 1 ((nl (wg z.natAbs)).map (ie .u64)),.lit (.bool (decide (z<0))),.row 1 []]:=by
 unfold RV;rw[Rat.num_intCast,Rat.den_intCast,show 1-1=0 from rfl,eO]
 rfl
theorem JK {n:Int} (h0: -9223372036854775808≤n) (h1:n≤9223372036854775807):aA Tryz.prog 166 [.lit (.int .i64 n)] [] (RV (n:Rat)) []:=by
 rw[zh];refine zF pl Tryz.call166 Tryz.func166 [.cell 2 234] fun Q hQ=>?_;refine ae ?_;refine zC (PS h0 h1) ?_;exact ak [] hQ
theorem Lo {n:Nat} (hn:(wg n).length≤4000000):aA Tryz.prog 169 [NV n] [] (RV ((n:Int):Rat)) []:=by
 have hm:=cK (b:=false) (n:=n) hn;rw[show sg false n=(n:Int) from rfl] at hm;rw[zh];refine zF pl Tryz.call169 Tryz.func169 [.cell 2 234] fun Q hQ=>?_;refine ae ?_;refine zC hm ?_;exact ak [] hQ
theorem MH {x:Rat}:aA Tryz.prog 188 [RV x] [] (WV x.num) []:=by
 refine zF pl Tryz.call188 Tryz.func188 [.cell 2 232] fun Q hQ=>?_;exact zE [] hQ
theorem pY {x:Rat} (h:(wg x.den).length≤1999999):aA Tryz.prog 190 [RV x] [] (NV x.den) []:=by
 have ho:=eG (x:=1) zd;have hd:=x.den_nz;have hl:(wg (x.den-1)).length≤1999999:=ajD (df zo) h;have ha:=gS (a:=x.den-1) (b:=1) zo (ajD (di zd) zd);rw[show x.den-1+1=x.den by omega] at ha;refine zF NC Tryz.call190 Tryz.func190 [.cell 2 157] fun Q hQ=>?_;refine ae ?_;refine zW [] [2] ho ?_;refine zC ha ?_;exact ak [] hQ
theorem kh {x:Rat} (h:(wg x.den).length≤1999999):aA Tryz.prog 183 [RV x] [] (WV (x.den:Int)) []:=by
 have hm:=cK (b:=false) (n:=x.den) zo;rw[show sg false x.den=(x.den:Int) from rfl] at hm;refine zF pl Tryz.call183 Tryz.func183 [.cell 2 232] fun Q hQ=>?_;refine ae ?_;refine zC (pY (x:=x) h) ?_;refine zC hm ?_;exact ak [] hQ
def BS (x y:Rat):Int:=if x<y then-1 else if y<x then 1 else 0
theorem LM (x y:Rat):qG (x.num*y.den) (y.num*x.den)=BS x y:=by
 unfold qG BS;simp only[Rat.lt_iff]
theorem gb {x y:Int} {k l:Nat} (hx:(wg x.natAbs).length≤k) (hy:(wg y.natAbs).length≤l):(wg (x*y).natAbs).length≤k+l:=by
 rw[Int.natAbs_mul];exact ajD (iR (B:=18446744073709551616) zd _ _) (Nat.add_le_add hx hy)
theorem wN {x y:Int} {k:Nat} (hx:(wg x.natAbs).length≤k) (hy:(wg y.natAbs).length≤k):(wg (x+y).natAbs).length≤k+1:=
 ajD (df (Int.natAbs_add_le x y)) (iQ (B:=18446744073709551616) zd hx hy)
theorem B7 {x y:Rat} (hx:RS 400000 x) (hy:RS 400000 y):aA Tryz.prog 165 [RV x,RV y] [] (.lit (.int .i64 (BS x y))) []:=by
 obtain ⟨hx1,hx2⟩:=hx;obtain ⟨hy1,hy2⟩:=hy;have hm1:=pV (x:=x.num) (y:=(y.den:Int)) zo (by simp only[akd];omega);have hm2:=pV (x:=y.num) (y:=(x.den:Int)) zo (by simp only[akd];omega);have hl1:=gb (x:=x.num) (y:=(y.den:Int)) hx1 (by simp only[akd];exact hy2);have hl2:=gb (x:=y.num) (y:=(x.den:Int)) hy1 (by simp only[akd];exact hx2);have hc:=Nh (x:=x.num*y.den) (y:=y.num*x.den) zo zo;rw[LM] at hc;refine zF O3 Tryz.call165 Tryz.func165 [.tmp 4] fun Q hQ=>?_;refine ae ?_;refine zC (kh (x:=y) zo) ?_;refine zC hm1 ?_;refine zC (kh (x:=x) zo) ?_;refine zC hm2 ?_;refine zC hc ?_;exact ak [] hQ
theorem pZ {p q:Int} (hq:q≠0):mkRat (sg (!(decide (p<0)==decide (q<0))) p.natAbs) q.natAbs=(p:Rat)/(q:Rat):=by
 rw[←Rat.divInt_eq_div];have hp:=lS p
 by_cases h:q<0
 · obtain ⟨m,rfl⟩:∃m:Nat,q= -(m:Int):=⟨q.natAbs,by omega⟩
   rw[Rat.divInt_neg',Rat.divInt_ofNat,aju h]
   congr 1
   · cases hb:decide (p<0)
     · rw[hb] at hp;simp[sg] at hp ⊢;omega
     · rw[hb] at hp;simp[sg] at hp ⊢;omega
   · omega
 · obtain ⟨m,rfl⟩:∃m:Nat,q=(m:Int):=⟨q.natAbs,by omega⟩
   rw[Rat.divInt_ofNat,ajn h]
   congr 1
   cases hb:decide (p<0)
   · rw[hb] at hp;simp[sg] at hp ⊢;omega
   · rw[hb] at hp;simp[sg] at hp ⊢;omega
theorem Nb:RV 0=.agg [.row 1 [],.lit (.bool false),.row 1 []]:=by
 have:=zh 0
 rw[show((0:Int):Rat)=0 from rfl,show(0:Int).natAbs=0 from rfl,eO] at this;exact this
theorem HL {p q:Int} (hq:q≠0) (h1:(wg p.natAbs).length≤1000000) (h2:(wg q.natAbs).length≤1000000):aA Tryz.prog 132 [WV p,WV q] [] (.tup [RV ((p:Rat)/(q:Rat)),.lit (.int .i64 0)]) []:=by
 have hm:=cK (b:= !(decide (p<0)==decide (q<0))) (n:=p.natAbs) zo;have hr:=yY (n:=sg (!(decide (p<0)==decide (q<0))) p.natAbs) (d:=q.natAbs) zo (by rw[kB];exact h1) h2;rw[pZ hq] at hr;refine zF Oi Tryz.call132 Tryz.func132 [.cell 4 234,.tmp 5] fun Q hQ=>?_;refine ae ?_;refine zC (jQ (z:=q)) ?_;refine aB (dM (n:=q.natAbs) zo) rfl rfl ?_;rw[ajn (show¬q.natAbs=0 by omega)];refine ae ?_;refine zC (p7 (z:=p)) ?_;refine zC (p7 (z:=q)) ?_;refine zC (jQ (z:=p)) ?_;refine zC hm ?_;refine zC (jQ (z:=q)) ?_;refine zC hr ?_;exact ak [] hQ
theorem Qa {p:Int} (h0: -9223372036854775808≤p) (h1:p≤9223372036854775807):(wg p.natAbs).length≤1:=di zo
theorem Q2 {k l:Nat} {x y:Rat} (hx:RS k x) (hy:RS l y):RS (k+l+1) (x+y):=by
 rw[Rat.add_def'];refine N9 (Nat.mul_ne_zero x.den_nz y.den_nz) ?_ (ajD (iR (B:=18446744073709551616) zd _ _) (by have:=hx.2;have:=hy.2;unfold wg at*;omega));have a:=gb (x:=x.num) (y:=(y.den:Int)) hx.1 (by simp only[akd];exact hy.2);have b:=gb (x:=y.num) (y:=(x.den:Int)) hy.1 (by simp only[akd];exact hx.2);exact wN a zo
theorem GH {k:Nat} {x:Rat} (hx:RS k x):RS k (-x):=by
 unfold RS;rw[Rat.neg_num,Rat.neg_den,Int.natAbs_neg];exact hx
theorem Ii {k l:Nat} {x y:Rat} (hx:RS k x) (hy:RS l y):RS (k+l+1) (x-y):=by
 rw[Rat.sub_eq_add_neg];exact Q2 hx (GH hy)
theorem sF {z:Int} {k:Nat} (h:(wg z.natAbs).length≤k) (hk:1≤k):RS k (z:Rat):=by
 constructor
 · rw[Rat.num_intCast];exact h
 · rw[Rat.den_intCast];exact ajD (di zd) hk
theorem MZ {x y:Rat} (hx:RS 400000 x) (hy:RS 400000 y):aA Tryz.prog 186 [RV x,RV y] [] (RV (x+y)) []:=by
 obtain ⟨hx1,hx2⟩:=hx;obtain ⟨hy1,hy2⟩:=hy;have hm1:=pV (x:=x.num) (y:=(y.den:Int)) zo (by simp only[akd];omega);have hm2:=pV (x:=y.num) (y:=(x.den:Int)) zo (by simp only[akd];omega);have hl1:=gb (x:=x.num) (y:=(y.den:Int)) hx1 (by simp only[akd];exact hy2);have hl2:=gb (x:=y.num) (y:=(x.den:Int)) hy1 (by simp only[akd];exact hx2);have hl3:=wN hl1 hl2;have hl4:(wg (x.den*y.den)).length≤800000:=ajD (iR (B:=18446744073709551616) zd _ _) (by unfold wg at*;omega);have ha:=Lu (x:=x.num*y.den) (y:=y.num*x.den) zo zo;have hmd:=Ch (a:=x.den) (b:=y.den) zo zo;have hr:=yY (n:=x.num*y.den+y.num*x.den) (d:=x.den*y.den) (Nat.mul_ne_zero x.den_nz y.den_nz) zo zo;rw[←Rat.add_def'] at hr;refine zF OV Tryz.call186 Tryz.func186 [.cell 4 234] fun Q hQ=>?_;refine ae ?_;refine zC (kh (x:=y) zo) ?_;refine zC hm1 ?_;refine zC (kh (x:=x) zo) ?_;refine zC hm2 ?_;refine zC ha ?_;refine zC (pY (x:=x) zo) ?_;refine zC (pY (x:=y) zo) ?_;refine zC hmd ?_;refine zC hr ?_;exact ak [] hQ
theorem L5 {x y:Rat} (hx:RS 400000 x) (hy:RS 400000 y):aA Tryz.prog 168 [RV x,RV y] [] (RV (x-y)) []:=by
 have hw:=DA (z:=y.num) (by have:=hy.1;omega);have ha:=MZ (x:=x) (y:=-y) hx (GH hy);rw[←Rat.sub_eq_add_neg] at ha;rw[show RV (-y)=.agg [.row 1 ((nl (wg (-y.num).natAbs)).map (ie .u64)),.lit (.bool (decide (-y.num<0))),.row 1 ((nl (wg (y.den-1))).map (ie .u64))] from rfl] at ha;refine zF O8 Tryz.call168 Tryz.func168 [.cell 4 234] fun Q hQ=>?_;refine ae ?_;refine zC hw ?_;refine zC ha ?_;exact ak [] hQ
end Go.Proofs.YtcnlmelpnflhnaaGreat
