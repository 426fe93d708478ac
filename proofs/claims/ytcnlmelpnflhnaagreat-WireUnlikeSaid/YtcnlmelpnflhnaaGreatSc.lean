import Derived.Test.YtcnlmelpnflhnaaGreatFw
import Derived.Test.YtcnlmelpnflhnaaGreatE7
import Derived.Test.YtcnlmelpnflhnaaGreatHa
namespace Go.Proofs.YtcnlmelpnflhnaaGreat
open Go.Eng Go.Vx
set_option linter.unusedSimpArgs false
set_option linter.unusedVariables false
set_option maxRecDepth 100000
theorem wW {B:List Int} {p:Nat} (hI:ke B) (hB:B.length≤1099511627776) (hp:p≤8*B.length):aA Tryz.prog 151 [.ref 0 0 0 0] [some (dk B p)]
 (.tup [.lit (.int .u64 ((gX (bitsOf B) p).1:Int)),.lit (.int .i64 (gX (bitsOf B) p).2.2)]) [some (dk B (gX (bitsOf B) p).2.1)]:=by
 refine zF pl Tryz.call151 Tryz.func151 [.tmp 2,.tmp 3] fun Q hQ=>?_;refine ae ?_;have hbl:=ba B
 refine aR (X:=Nat) (st:=fun k=>([(0,.ref 0 0 0 0),(9,.lit (.int .i64 (k:Int)))],[some (dk B (p+k))]))
  (inv:=fun k=>k≤64∧k≤zr (bitsOf B) p∧p+k≤8*B.length) (m:=fun k=>64-k) 0 [some 0] ⟨by omega,by omega,by omega⟩ ?_
 rintro k ⟨hk,hz,hpk⟩
 by_cases hk64:k<64
 · refine ae ?_
   refine aF [some 0] [] (qK (B:=B) (p:=p+k) hI hB hpk) ?_
   by_cases hin:p+k<(bitsOf B).length
   · rw[zZ hin]
     cases hb:(bitsOf B).getD (p+k) false with
     | true=>
       have hzk:=KZ hin hz hb;refine afW ?_;refine aF [some 0] [] (rz (B:=B) (p:=p+k+1) (w:=k) hI hB zo) ?_
       by_cases he:p+k+1+k≤(bitsOf B).length
       · rw[HC zo he]
         rw[(Om hzk hk64 zo).1] at hQ;have hnl:=dU (((bitsOf B).drop (p+k+1)).take k);have hln:(((bitsOf B).drop (p+k+1)).take k).length=k:=by simp;omega
         rw[hln] at hnl
         simp(maxSteps:=1000000) (disch:=(first | omega | (simp only[cQ,ajl,ajo,true_and,and_true];(try omega);done) | fail)) only[go_sem,CH hk64,QP hk64 hnl,Int.reduceEq,Int.reduceToNat,Nat.reduceAdd,Nat.reduceMul,Nat.reduceEqDiff, ↓reduceIte]
         exact ak [some 0] hQ
       · rw[zL zo he]
         rw[(HK hzk hk64 zo).1,if_pos hin] at hQ;exact zE [some 0] hQ
     | false=>
       have hzk:=GF hin hz hb;refine aed ?_;refine aM (k+1) [some 0] ⟨by omega,by omega,by omega⟩ zo
   · rw[Bd hin]
     have hzk:=Qp hin hz zo;rw[(HK hzk hk64 zo).1,if_neg hin] at hQ;exact zE [some 0] hQ
 · obtain rfl:k=64:=by omega
   rw[(KA zo).1] at hQ;exact zE [some 0] hQ
theorem IJ {B:List Int} {p:Nat} (hI:ke B) (hB:B.length≤1099511627776) (hp:p≤8*B.length):aA Tryz.prog 152 [.ref 0 0 0 0] [some (dk B p)]
 (.tup [.lit (.int .u64 ((vX (bitsOf B) p).1:Int)),.lit (.int .i64 (vX (bitsOf B) p).2.2)]) [some (dk B (vX (bitsOf B) p).2.1)]:=by
 refine zF pl Tryz.call152 Tryz.func152 [.tmp 2,.tmp 3] fun Q hQ=>?_;refine ae ?_;have hbl:=ba B
 refine aR (X:=Nat×Nat×Nat) (st:=fun x=>([(0,.ref 0 0 0 0),(4,.lit (.int .u64 (x.2.2:Int))),(9,.lit (.int .i64 (x.1:Int)))],[some (dk B x.2.1)]))
  (inv:=fun x=>x.1≤10∧x.2.1≤8*B.length∧x.2.2<2^(7*x.1)∧vX (bitsOf B) p=F0 (bitsOf B) (10-x.1) x.1 x.2.1 x.2.2) (m:=fun x=>10-x.1) (0,p,0) [some 0] ⟨by simp,hp,by simp,rfl⟩ ?_
 rintro ⟨i,q,a⟩ ⟨hi,hq,ha,hv⟩;simp only at hi hq ha hv;rw[hv] at hQ
 by_cases h10:i<10
 · obtain ⟨j,hj⟩:∃j,10-i=j+1:=⟨9-i,by omega⟩
   rw[hj] at hQ;refine ae ?_;refine aF [some 0] [] (rz (B:=B) (p:=q) (w:=8) hI hB hq) ?_
   by_cases hr:q+8≤(bitsOf B).length
   · rw[Pr hr]
     obtain ⟨x,hx⟩:∃x,numOf (((bitsOf B).drop q).take 8)=x:=⟨_,rfl⟩;have hx8:=dU (((bitsOf B).drop q).take 8);have hln:(((bitsOf B).drop q).take 8).length=8:=by simp;omega
     rw[hln,hx] at hx8;rw[vq hr hx] at hQ;rw[hx];have hc:(x:Int)%128=((x%128:Nat):Int):=by omega
     have e7:(7*(i:Int)).toNat=7*i:=by omega
     have hxm:x%128<128:=ajI _ zd
     by_cases hbad:(i=9∧1<x%128)∨(0<i∧x=0)
     · rw[if_pos hbad] at hQ
       by_cases h9:i=9
       · by_cases h8:1<x%128
         · simp(maxSteps:=1000000) (disch:=(first | omega | (simp only[cQ,ajl,ajo,true_and,and_true];(try omega);done) | fail)) only[go_sem,hc,Int.reduceEq,Int.reduceToNat,Nat.reduceAdd,Nat.reduceMul,Nat.reduceEqDiff, ↓reduceIte]
           exact ak [some 0] hQ
         · simp(maxSteps:=1000000) (disch:=(first | omega | (simp only[cQ,ajl,ajo,true_and,and_true];(try omega);done) | fail)) only[go_sem,hc,Int.reduceEq,Int.reduceToNat,Nat.reduceAdd,Nat.reduceMul,Nat.reduceEqDiff, ↓reduceIte]
           exact ak [some 0] hQ
       · simp(maxSteps:=1000000) (disch:=(first | omega | (simp only[cQ,ajl,ajo,true_and,and_true];(try omega);done) | fail)) only[go_sem,hc,Int.reduceEq,Int.reduceToNat,Nat.reduceAdd,Nat.reduceMul,Nat.reduceEqDiff, ↓reduceIte]
         exact ak [some 0] hQ
     · rw[if_neg hbad] at hQ
       have h91:i=9→x%128≤1:=fun h=>by
        have:¬1<x%128:=fun h'=>hbad (.inl ⟨h,h'⟩)
        omega
       have h0:¬(0<i∧x=0):=fun h=>hbad (.inr h);have hw:=HD (x:=x%128) (i:=i) zo h91 hxm;have ho:=QM (x:=x%128) ha zo h91 hxm;have hs:=PU (x:=x%128) (i:=i) zo h91 hxm;have hp7:=uS i;have hmul:x%128*2^(7*i)≤127*2^(7*i):=ajP _ zo
       by_cases hx128:x<128
       case' pos=>rw[if_pos hx128] at hQ
       case' neg=>rw[if_neg hx128] at hQ
       all_goals
        by_cases h9:i=9
        case' pos=>simp(maxSteps:=1000000) (disch:=(first | omega | (simp only[cQ,ajl,ajo,true_and,and_true];(try omega);done) | fail)) only[go_sem,hc,Int.reduceEq,Int.reduceToNat,Nat.reduceAdd,Nat.reduceMul,Nat.reduceEqDiff, ↓reduceIte]
        case' neg=>simp(maxSteps:=1000000) (disch:=(first | omega | (simp only[cQ,ajl,ajo,true_and,and_true];(try omega);done) | fail)) only[go_sem,hc,Int.reduceEq,Int.reduceToNat,Nat.reduceAdd,Nat.reduceMul,Nat.reduceEqDiff, ↓reduceIte]
       all_goals
        by_cases hi0:i=0
        case' pos=>simp(maxSteps:=1000000) (disch:=(first | omega | (simp only[cQ,ajl,ajo,true_and,and_true];(try omega);done) | fail)) only[go_sem,hc,e7,hw,ho,Int.reduceEq,Int.reduceToNat,Nat.reduceAdd,Nat.reduceMul,Nat.reduceEqDiff, ↓reduceIte]
        case' neg=>simp(maxSteps:=1000000) (disch:=(first | omega | (simp only[cQ,ajl,ajo,true_and,and_true];(try omega);done) | fail)) only[go_sem,hc,e7,hw,ho,Int.reduceEq,Int.reduceToNat,Nat.reduceAdd,Nat.reduceMul,Nat.reduceEqDiff, ↓reduceIte]
       all_goals
        first
        | omega
        | (exact ak [some 0] hQ)
        | (refine aM (i+1,q+8,a+x%128*2^(7*i)) [some 0] ⟨by simp only;omega,by simp only;omega,by simp only;omega,by rw[hv,hj,vq hr hx,if_neg hbad,if_neg hx128];simp only;rw[show 10-(i+1)=j by omega]⟩ (by simp only;omega))
   · rw[Mv hr]
     rw[Mj hr] at hQ;exact zE [some 0] hQ
 · obtain rfl:i=10:=by omega
   rw[show F0 (bitsOf B) (10-10) 10 q a=(0,q,4) from rfl] at hQ;exact zE [some 0] hQ
open Go.Eng
structure SP where
 m:Nat
 d:Nat
 s:Nat
abbrev Cell:=Nat×Nat
abbrev SS:=List Cell×Nat×Bool
def iG (c:Cell) (s:Nat):Nat:=c.1*2^(s*c.2)
def gH (c:Cell):Cell:=if c.1=0 then(c.1,0) else c
def Gm (c:Cell) (s:Nat):DT Cell:=(fc c.1 s).bind fun n=>.ret (n,c.2+1)
def bz (P:SP) (v s:Nat):Nat→Nat→Nat
 | 0,m=>m
 | f+1,m=>if m<P.d∧P.m<v/2^(s*m) then bz P v s f (m+1) else m
def F5 (P:SP) (v s:Nat):DT Cell:=(fc v (s*bz P v s P.d 0)).bind fun n=>.ret (n,bz P v s P.d 0)
def Ln (P:SP) (was:Nat) (c:Cell):DT Cell:=(F5 P (iG c was) (was+1)).bind fun c1=>if P.m<c1.1 then Gm c1 (was+1) else .ret c1
def jc (P:SP) (was:Nat) (i:Int):List Cell→Nat→Cell→DT (List Cell×Cell)
 | [],_,own=>.ret ([],own)
 | c::cs,k,own=>if (k:Int)=i then(F5 P (iG own was) (was+1)).bind fun o=>(jc P was i cs (k+1) o).bind fun r=>.ret (c::r.1,r.2)
    else(Ln P was c).bind fun c1=>(jc P was i cs (k+1) own).bind fun r=>.ret (gH c1::r.1,r.2)
def gy (P:SP) (i:Nat):Nat→SS→Cell→DT SS
 | 0,st,c=>.ret (st.1,st.2.1,true)
 | f+1,st,c=>if c.1≤P.m then .ret (st.1.set i (gH c),st.2) else
    if c.2<P.d then(Gm c st.2.1).bind fun c1=>gy P i f st c1 else
    if st.2.1<P.s then(jc P st.2.1 i st.1 0 c).bind fun r=>gy P i f (r.1,st.2.1+1,st.2.2) r.2 else
    .ret (st.1.set i (gH (P.m,c.2)),st.2.1,true)
def qD (P:SP) (s m:Nat):Nat:=(P.s-s)*(P.d+2)+(P.d-m)+2
def td (P:SP) (st:SS) (i n:Nat):DT SS:=
 (fc n (st.2.1*(st.1.getD i (0,0)).2)).bind fun by'=>gy P i (qD P st.2.1 (st.1.getD i (0,0)).2) st ((st.1.getD i (0,0)).1+by',(st.1.getD i (0,0)).2)
def pj (c:Cell) (s:Nat):Rat:=vn (iG c s)
theorem Mq (c:Cell) (s:Nat):pj (gH c) s=pj c s:=by
 unfold pj gH iG
 split
 · rename_i h;rw[h,akK,akK]
 · rfl
theorem yv {α:Type} {v:α→Rat} {t:DT α} {c:Rat} {w:α→Rat} (h:∀a,v a=w a*c):t.mean v=t.mean w*c:=by
 rw[cB (w:=fun a=>w a*c) (all_true h),qw]
theorem K6 (c:Cell) (s:Nat):(Gm c s).mean (fun x=>pj x s)=pj c s:=by
 unfold Gm;rw[cc];have h:∀n,(DT.ret ((n,c.2+1):Cell)).mean (fun x=>pj x s)=vn n*vn (2^(s*(c.2+1))):=fun n=>oD _ _;rw[yv h]
 have:=t8 c.1 s
 rw[Nat.mul_succ,ako,oD];unfold pj iG;rw[oD];generalize (fc c.1 s).mean vn=a at*
 grind
theorem BZ (P:SP) (v s:Nat):(F5 P v s).mean (fun x=>pj x s)=vn v:=by
 unfold F5;rw[cc];generalize bz P v s P.d 0=m;have h:∀n,(DT.ret ((n,m):Cell)).mean (fun x=>pj x s)=vn n*vn (2^(s*m)):=fun n=>oD _ _;rw[yv h];exact t8 v (s*m)
theorem Nd (P:SP) (was:Nat) (c:Cell):(Ln P was c).mean (fun x=>pj x (was+1))=pj c was:=by
 unfold Ln;rw[cc]
 have h:∀c1:Cell,(if P.m<c1.1 then Gm c1 (was+1) else .ret c1).mean (fun x=>pj x (was+1))=pj c1 (was+1):=fun c1=>by
  split
  · exact K6 _ _
  · rfl
 rw[cB (all_true h)];exact BZ _ _ _
def wl (l:List Cell) (s j:Nat):Rat:=pj (l.getD j (0,0)) s
theorem vt (P:SP) (was:Nat) (i:Int):∀(cs:List Cell) (k:Nat) (own:Cell),
 (∀j,((k+j:Nat):Int)≠i→(jc P was i cs k own).mean (fun r=>wl r.1 (was+1) j)=wl cs was j)∧
 ((∃j,j<cs.length∧((k+j:Nat):Int)=i)→(jc P was i cs k own).mean (fun r=>pj r.2 (was+1))=pj own was)∧
 ((∀j,j<cs.length→((k+j:Nat):Int)≠i)→(jc P was i cs k own).all (fun r=>r.2=own))∧
 (jc P was i cs k own).all (fun r=>r.1.length=cs.length):=by
 intro cs
 induction cs with
 | nil=>
   intro k own;refine⟨fun j _=>?_,fun⟨j,hj,_⟩=>absurd hj (by simp),fun _=>rfl,rfl⟩;unfold jc DT.mean wl pj iG
   simp
 | cons c cs ih=>
   intro k own;unfold jc
   by_cases hk:(k:Int)=i
   · rw[if_pos hk]
     have hne:∀j,j<cs.length→((k+1+j:Nat):Int)≠i:=fun j _=>by omega
     have hown:∀o,(jc P was i cs (k+1) o).all (fun r=>r.2=o):=fun o=>(ih (k+1) o).2.2.1 hne;refine⟨fun j hj=>?_,fun _=>?_,fun h=>absurd hk (h 0 (by simp)),?_⟩
     · cases j with
       | zero=>exact absurd hk (by simpa using hj)
       | succ j=>
         rw[cc]
         have h:∀o,((jc P was i cs (k+1) o).bind fun r=>DT.ret ((c::r.1,r.2):List Cell×Cell)).mean (fun r=>wl r.1 (was+1) (j+1))=wl cs was j:=fun o=>by
          rw[cc];exact(ih (k+1) o).1 j zo
         rw[cB (all_true h),ee]
         rfl
     · rw[cc]
       have h:∀o,((jc P was i cs (k+1) o).bind fun r=>DT.ret ((c::r.1,r.2):List Cell×Cell)).mean (fun r=>pj r.2 (was+1))=pj o (was+1):=fun o=>by
        rw[cc]
        have h2:(jc P was i cs (k+1) o).all (fun r=>(DT.ret ((c::r.1,r.2):List Cell×Cell)).mean (fun r=>pj r.2 (was+1))=pj o (was+1)):=bQ (fun r e=>by
         show pj r.2 (was+1)=_;rw[e]) (hown o)
        rw[cB h2,ee]
       rw[cB (all_true h)];exact BZ _ _ _
     · rw[all_bind]
       refine all_true fun o=>?_;rw[all_bind];refine bQ (fun r e=>?_) (ih (k+1) o).2.2.2
       show(c::r.1).length=_
       simp[e]
   · rw[if_neg hk]
     refine⟨fun j hj=>?_,fun⟨j,hj,e⟩=>?_,fun h=>?_,?_⟩
     · cases j with
       | zero=>
         rw[cc]
         have h:∀c1,((jc P was i cs (k+1) own).bind fun r=>DT.ret ((gH c1::r.1,r.2):List Cell×Cell)).mean (fun r=>wl r.1 (was+1) 0)=pj c1 (was+1):=fun c1=>by
          rw[cc];have h2:∀r:List Cell×Cell,(DT.ret ((gH c1::r.1,r.2):List Cell×Cell)).mean (fun r=>wl r.1 (was+1) 0)=pj c1 (was+1):=fun r=>Mq _ _;rw[cB (all_true h2),ee]
         rw[cB (all_true h)];exact Nd _ _ _
       | succ j=>
         rw[cc]
         have h:∀c1,((jc P was i cs (k+1) own).bind fun r=>DT.ret ((gH c1::r.1,r.2):List Cell×Cell)).mean (fun r=>wl r.1 (was+1) (j+1))=wl cs was j:=fun c1=>by
          rw[cc];exact(ih (k+1) own).1 j zo
         rw[cB (all_true h),ee]
         rfl
     · cases j with
       | zero=>exact absurd (by simpa using e) hk
       | succ j=>
         rw[cc]
         have h:∀c1,((jc P was i cs (k+1) own).bind fun r=>DT.ret ((gH c1::r.1,r.2):List Cell×Cell)).mean (fun r=>pj r.2 (was+1))=pj own was:=fun c1=>by
          rw[cc];exact(ih (k+1) own).2.1 ⟨j,by simpa using hj,by omega⟩
         rw[cB (all_true h),ee]
     · rw[all_bind]
       refine all_true fun c1=>?_;rw[all_bind];refine bQ (fun r e=>e) ((ih (k+1) own).2.2.1 fun j hj=>?_)
       have:=h (j+1) (by simpa using hj)
       omega
     · rw[all_bind]
       refine all_true fun o=>?_;rw[all_bind];refine bQ (fun r e=>?_) (ih (k+1) own).2.2.2
       show(gH o::r.1).length=_
       simp[e]
end Go.Proofs.YtcnlmelpnflhnaaGreat
