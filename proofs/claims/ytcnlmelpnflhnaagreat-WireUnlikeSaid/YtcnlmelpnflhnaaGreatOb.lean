import Derived.Test.YtcnlmelpnflhnaaGreatFw
import Derived.Test.YtcnlmelpnflhnaaGreatE8
import Derived.Test.YtcnlmelpnflhnaaGreatLa
import Derived.Test.YtcnlmelpnflhnaaGreatE7
namespace Go.Proofs.YtcnlmelpnflhnaaGreat
open Go.Eng Go.Vx
set_option linter.unusedSimpArgs false
set_option linter.unusedVariables false
set_option maxRecDepth 100000
def afT (L:List Bool) (n d p:Nat):Nat×Int×Nat×Bool:=
 (if (eO L (n%d) d p).2.1=0 then n/d+(if (eO L (n%d) d p).1 then 1 else 0) else 0,(eO L (n%d) d p).2.1,(eO L (n%d) d p).2.2.1,(eO L (n%d) d p).2.2.2)
def lP (L:List Bool) (p:Nat) (r:Nat×Int×Nat×Bool):Prop:=r=(0,8,L.length,true)∨∃n e q,r=(n,e,q,false)∧e≠8∧p≤q∧q≤L.length
open Go.Eng
def jC (X:List (Nat×Nat)):List Bool:=X.flatMap fun x=>numBits x.1 61++aq x.2
def eH (X:List (Nat×Nat)) (N:Nat):List Bool:=cF N++if N=0 then [] else jC X
theorem kg (x:Nat×Nat) (X:List (Nat×Nat)):jC (x::X)=numBits x.1 61++aq x.2++jC X:=by simp[jC]
theorem Jf (X Y:List (Nat×Nat)):jC (X++Y)=jC X++jC Y:=by simp[jC]
def ML (L:List Bool) (T:Nat):Nat→Nat→Option (List (Nat×Nat))×Nat×Int
 | 0,p=>(some [],p,0)
 | c+1,p=>
   if p+61≤L.length then
    (if (gX L (p+61)).2.2=0 then
     (if 2305843009213693951≤numOf ((L.drop p).take 61)∨T<(gX L (p+61)).1 then(none,(gX L (p+61)).2.1,4)
      else((ML L T c (gX L (p+61)).2.1).1.map (fun X=>(numOf ((L.drop p).take 61),(gX L (p+61)).1)::X),(ML L T c (gX L (p+61)).2.1).2))
     else(none,(gX L (p+61)).2.1,(gX L (p+61)).2.2))
   else(none,p,5)
def arR (L:List Bool) (C p:Nat):Option (List (Nat×Nat)×Nat)×Nat×Int:=
 if (vX L p).2.2=0 then
  (if 1048576<(vX L p).1 then(none,(vX L p).2.1,4)
   else if (vX L p).1=0 then(some (List.replicate C (0,0),0),(vX L p).2.1,0)
   else((ML L (vX L p).1 C (vX L p).2.1).1.map (fun X=>(X,(vX L p).1)),(ML L (vX L p).1 C (vX L p).2.1).2))
 else(none,(vX L p).2.1,(vX L p).2.2)
theorem vR {T:Nat} {R:List Bool}:∀(X:List (Nat×Nat)) (A:List Bool),(∀x∈X,x.1<2305843009213693951∧1≤x.2∧x.2≤T)→T≤1048576→
 ML (A++(jC X++R)) T X.length A.length=(some X,A.length+(jC X).length,0)
 | [],A,h,hT=>by simp[ML,jC]
 | x::X,A,h,hT=>by
   obtain ⟨h1,h2,h3⟩:=h x (by simp);have ih:=vR (T:=T) (R:=R) X (A++numBits x.1 61++aq x.2) (fun y hy=>h y (by simp[hy])) hT;have e:A++(jC (x::X)++R)=A++numBits x.1 61++aq x.2++(jC X++R):=by rw[kg];simp
   have e2:A++(jC (x::X)++R)=A++numBits x.1 61++(aq x.2++(jC X++R)):=by rw[kg];simp
   have e3:A++(jC (x::X)++R)=A++(numBits x.1 61++(aq x.2++(jC X++R))):=by rw[kg];simp
   have hn:numOf (((A++(jC (x::X)++R)).drop A.length).take 61)=x.1:=by
    rw[e3,aiN,ahy (ai _ _),aR,agL zo]
   have hl:A.length+61≤(A++(jC (x::X)++R)).length:=by rw[e3];simp[ai]
   have hg:gX (A++(jC (x::X)++R)) (A.length+61)=(x.2,A.length+61+(aq x.2).length,0):=by
    have:=zV (A:=A++numBits x.1 61) (T:=jC X++R) (n:=x.2) zo zo
    rw[agn,ai] at this;rw[e2];exact this
   rw[List.length_append,List.length_append,ai,←e] at ih;rw[List.length_cons];unfold ML;rw[if_pos hl,hg];dsimp only;rw[if_pos rfl,hn,if_neg zo,ih,kg];simp only[Option.map_some,List.length_append,ai]
   congr 2
   omega
def okA (C:Nat) (X:List (Nat×Nat)) (N:Nat):Prop:=X.length=C∧N≤1048576∧(∀x∈X,x.1<2305843009213693951∧x.2≤N)∧((0<N∧∀x∈X,1≤x.2)∨(N=0∧∀x∈X,x=(0,0)))
theorem wC {A R:List Bool} {C:Nat} {X:List (Nat×Nat)} {N:Nat} (h:okA C X N):arR (A++(eH X N++R)) C A.length=(some (X,N),A.length+(eH X N).length,0):=by
 obtain ⟨h1,h2,h3,h4⟩:=h;rcases h4 with⟨h4,h5⟩ | ⟨h4,h5⟩
 · have hb:eH X N=cF N++jC X:=by unfold eH;rw[if_neg zo]
   have hv:=tP (A:=A) (T:=jC X++R) (n:=N) zo;have e:A++(eH X N++R)=A++(cF N++(jC X++R)):=by rw[hb];simp
   have e2:A++(eH X N++R)=A++cF N++(jC X++R):=by rw[hb];simp
   have hr:=vR (T:=N) (R:=R) X (A++cF N) (fun x hx=>⟨(h3 x hx).1,h5 x hx,(h3 x hx).2⟩) h2;rw[←e2,List.length_append,h1] at hr;rw[←e] at hv;unfold arR;rw[hv];dsimp only;rw[if_pos rfl,if_neg zo,if_neg zo,hr,hb];simp only[Option.map_some,List.length_append]
   congr 2
   omega
 · subst h4
   have hX:X=List.replicate C (0,0):=List.eq_replicate_iff.2 ⟨h1,h5⟩;have hb:eH X 0=cF 0:=by unfold eH;rw[if_pos rfl,ahj]
   have hv:=tP (A:=A) (T:=R) (n:=0) zd;rw[hb];unfold arR;rw[hv];dsimp only;rw[if_pos rfl,if_neg zd,if_pos rfl,hX]
structure SP where
 m:Nat
 d:Nat
 s:Nat
abbrev Cell:=Nat×Nat
abbrev SS:=List Cell×Nat×Bool
def gS (c:Cell) (s:Nat):Nat:=c.1*2^(s*c.2)
def fT (c:Cell):Cell:=if c.1=0 then(c.1,0) else c
def Ee (c:Cell) (s:Nat):DT Cell:=(eI c.1 s).bind fun n=>.ret (n,c.2+1)
def ba (P:SP) (v s:Nat):Nat→Nat→Nat
 | 0,m=>m
 | f+1,m=>if m<P.d∧P.m<v/2^(s*m) then ba P v s f (m+1) else m
def DR (P:SP) (v s:Nat):DT Cell:=(eI v (s*ba P v s P.d 0)).bind fun n=>.ret (n,ba P v s P.d 0)
def IQ (P:SP) (was:Nat) (c:Cell):DT Cell:=(DR P (gS c was) (was+1)).bind fun c1=>if P.m<c1.1 then Ee c1 (was+1) else .ret c1
def iD (P:SP) (was:Nat) (i:Int):List Cell→Nat→Cell→DT (List Cell×Cell)
 | [],_,own=>.ret ([],own)
 | c::cs,k,own=>if (k:Int)=i then(DR P (gS own was) (was+1)).bind fun o=>(iD P was i cs (k+1) o).bind fun r=>.ret (c::r.1,r.2)
    else(IQ P was c).bind fun c1=>(iD P was i cs (k+1) own).bind fun r=>.ret (fT c1::r.1,r.2)
def fO (P:SP) (i:Nat):Nat→SS→Cell→DT SS
 | 0,st,c=>.ret (st.1,st.2.1,true)
 | f+1,st,c=>if c.1≤P.m then .ret (st.1.set i (fT c),st.2) else
    if c.2<P.d then(Ee c st.2.1).bind fun c1=>fO P i f st c1 else
    if st.2.1<P.s then(iD P st.2.1 i st.1 0 c).bind fun r=>fO P i f (r.1,st.2.1+1,st.2.2) r.2 else
    .ret (st.1.set i (fT (P.m,c.2)),st.2.1,true)
def px (P:SP) (s m:Nat):Nat:=(P.s-s)*(P.d+2)+(P.d-m)+2
def rz (P:SP) (st:SS) (i n:Nat):DT SS:=
 (eI n (st.2.1*(st.1.getD i (0,0)).2)).bind fun by'=>fO P i (px P st.2.1 (st.1.getD i (0,0)).2) st ((st.1.getD i (0,0)).1+by',(st.1.getD i (0,0)).2)
def nX (c:Cell) (s:Nat):Rat:=vn (gS c s)
theorem JU (c:Cell) (s:Nat):nX (fT c) s=nX c s:=by
 unfold nX fT gS
 split
 · rename_i h;rw[h,ahK,ahK]
 · rfl
theorem wh {α:Type} {v:α→Rat} {t:DT α} {c:Rat} {w:α→Rat} (h:∀a,v a=w a*c):t.mean v=t.mean w*c:=by
 rw[cc (w:=fun a=>w a*c) (all_true h),ph]
theorem IC (c:Cell) (s:Nat):(Ee c s).mean (fun x=>nX x s)=nX c s:=by
 unfold Ee;rw[bM];have h:∀n,(DT.ret ((n,c.2+1):Cell)).mean (fun x=>nX x s)=vn n*vn (2^(s*(c.2+1))):=fun n=>nk _ _;rw[wh h]
 have:=so c.1 s
 rw[Nat.mul_succ,ahq,nk];unfold nX gS;rw[nk];generalize (eI c.1 s).mean vn=a at*
 grind
theorem zN (P:SP) (v s:Nat):(DR P v s).mean (fun x=>nX x s)=vn v:=by
 unfold DR;rw[bM];generalize ba P v s P.d 0=m;have h:∀n,(DT.ret ((n,m):Cell)).mean (fun x=>nX x s)=vn n*vn (2^(s*m)):=fun n=>nk _ _;rw[wh h];exact so v (s*m)
theorem KH (P:SP) (was:Nat) (c:Cell):(IQ P was c).mean (fun x=>nX x (was+1))=nX c was:=by
 unfold IQ;rw[bM]
 have h:∀c1:Cell,(if P.m<c1.1 then Ee c1 (was+1) else .ret c1).mean (fun x=>nX x (was+1))=nX c1 (was+1):=fun c1=>by
  split
  · exact IC _ _
  · rfl
 rw[cc (all_true h)];exact zN _ _ _
def wl (l:List Cell) (s j:Nat):Rat:=nX (l.getD j (0,0)) s
theorem tz (P:SP) (was:Nat) (i:Int):∀(cs:List Cell) (k:Nat) (own:Cell),
 (∀j,((k+j:Nat):Int)≠i→(iD P was i cs k own).mean (fun r=>wl r.1 (was+1) j)=wl cs was j)∧
 ((∃j,j<cs.length∧((k+j:Nat):Int)=i)→(iD P was i cs k own).mean (fun r=>nX r.2 (was+1))=nX own was)∧
 ((∀j,j<cs.length→((k+j:Nat):Int)≠i)→(iD P was i cs k own).all (fun r=>r.2=own))∧
 (iD P was i cs k own).all (fun r=>r.1.length=cs.length):=by
 intro cs
 induction cs with
 | nil=>
   intro k own;refine⟨fun j _=>?_,fun⟨j,hj,_⟩=>absurd hj (by simp),fun _=>rfl,rfl⟩;unfold iD DT.mean wl nX gS
   simp
 | cons c cs ih=>
   intro k own;unfold iD
   by_cases hk:(k:Int)=i
   · rw[if_pos hk]
     have hne:∀j,j<cs.length→((k+1+j:Nat):Int)≠i:=fun j _=>by omega
     have hown:∀o,(iD P was i cs (k+1) o).all (fun r=>r.2=o):=fun o=>(ih (k+1) o).2.2.1 hne;refine⟨fun j hj=>?_,fun _=>?_,fun h=>absurd hk (h 0 (by simp)),?_⟩
     · cases j with
       | zero=>exact absurd hk (by simpa using hj)
       | succ j=>
         rw[bM]
         have h:∀o,((iD P was i cs (k+1) o).bind fun r=>DT.ret ((c::r.1,r.2):List Cell×Cell)).mean (fun r=>wl r.1 (was+1) (j+1))=wl cs was j:=fun o=>by
          rw[bM];exact(ih (k+1) o).1 j zo
         rw[cc (all_true h),dI]
         rfl
     · rw[bM]
       have h:∀o,((iD P was i cs (k+1) o).bind fun r=>DT.ret ((c::r.1,r.2):List Cell×Cell)).mean (fun r=>nX r.2 (was+1))=nX o (was+1):=fun o=>by
        rw[bM]
        have h2:(iD P was i cs (k+1) o).all (fun r=>(DT.ret ((c::r.1,r.2):List Cell×Cell)).mean (fun r=>nX r.2 (was+1))=nX o (was+1)):=bC (fun r e=>by
         show nX r.2 (was+1)=_;rw[e]) (hown o)
        rw[cc h2,dI]
       rw[cc (all_true h)];exact zN _ _ _
     · rw[all_bind]
       refine all_true fun o=>?_;rw[all_bind];refine bC (fun r e=>?_) (ih (k+1) o).2.2.2
       show(c::r.1).length=_
       simp[e]
   · rw[if_neg hk]
     refine⟨fun j hj=>?_,fun⟨j,hj,e⟩=>?_,fun h=>?_,?_⟩
     · cases j with
       | zero=>
         rw[bM]
         have h:∀c1,((iD P was i cs (k+1) own).bind fun r=>DT.ret ((fT c1::r.1,r.2):List Cell×Cell)).mean (fun r=>wl r.1 (was+1) 0)=nX c1 (was+1):=fun c1=>by
          rw[bM];have h2:∀r:List Cell×Cell,(DT.ret ((fT c1::r.1,r.2):List Cell×Cell)).mean (fun r=>wl r.1 (was+1) 0)=nX c1 (was+1):=fun r=>JU _ _;rw[cc (all_true h2),dI]
         rw[cc (all_true h)];exact KH _ _ _
       | succ j=>
         rw[bM]
         have h:∀c1,((iD P was i cs (k+1) own).bind fun r=>DT.ret ((fT c1::r.1,r.2):List Cell×Cell)).mean (fun r=>wl r.1 (was+1) (j+1))=wl cs was j:=fun c1=>by
          rw[bM];exact(ih (k+1) own).1 j zo
         rw[cc (all_true h),dI]
         rfl
     · cases j with
       | zero=>exact absurd (by simpa using e) hk
       | succ j=>
         rw[bM]
         have h:∀c1,((iD P was i cs (k+1) own).bind fun r=>DT.ret ((fT c1::r.1,r.2):List Cell×Cell)).mean (fun r=>nX r.2 (was+1))=nX own was:=fun c1=>by
          rw[bM];exact(ih (k+1) own).2.1 ⟨j,by simpa using hj,by omega⟩
         rw[cc (all_true h),dI]
     · rw[all_bind]
       refine all_true fun c1=>?_;rw[all_bind];refine bC (fun r e=>e) ((ih (k+1) own).2.2.1 fun j hj=>?_)
       have:=h (j+1) (by simpa using hj)
       omega
     · rw[all_bind]
       refine all_true fun o=>?_;rw[all_bind];refine bC (fun r e=>?_) (ih (k+1) own).2.2.2
       show(fT o::r.1).length=_
       simp[e]
def nf (r:SS):Prop:=r.2.2=false
theorem zJ (P:SP) (i:Nat):∀(f:Nat) (st:SS) (c:Cell),(fO P i f st c).all (fun r=>r.1.length=st.1.length∧(st.2.2=true→r.2.2=true)):=by
 intro f
 induction f with
 | zero=>intro st c;exact⟨rfl,fun _=>rfl⟩
 | succ f ih=>
   intro st c;unfold fO
   split
   · exact⟨ag0,fun h=>h⟩
   · split
     · rw[all_bind];exact all_true fun c1=>ih st c1
     · split
       · rw[all_bind]
         refine bC (fun r hr=>bC (fun q hq=>⟨hq.1.trans hr,hq.2⟩) (ih (r.1,st.2.1+1,st.2.2) r.2)) (tz P st.2.1 i st.1 0 c).2.2.2
       · exact⟨ag0,fun _=>rfl⟩
theorem Ju (P:SP) (st:SS) (i n:Nat):(rz P st i n).all (fun r=>r.1.length=st.1.length∧(st.2.2=true→r.2.2=true)):=by
 unfold rz;rw[all_bind];exact all_true fun a=>zJ P i _ st _
def lvD (P:SP):Nat→SS→DT SS
 | 0,st=>.ret st
 | k+1,st=>(iD P st.2.1 (-1) st.1 0 (0,0)).bind fun r=>lvD P k (r.1,st.2.1+1,st.2.2)
def ac4 (x y:SS) (i:Nat):DT Cell:=
 (eI (gS (x.1.getD i (0,0)) x.2.1) (x.2.1*max (x.1.getD i (0,0)).2 (y.1.getD i (0,0)).2)).bind fun n=>
 (eI (gS (y.1.getD i (0,0)) x.2.1) (x.2.1*max (x.1.getD i (0,0)).2 (y.1.getD i (0,0)).2)).bind fun m=>.ret (n+m,max (x.1.getD i (0,0)).2 (y.1.getD i (0,0)).2)
def mgD (P:SP):Nat→Nat→SS→SS→DT SS
 | 0,_,x,y=>.ret (x.1,x.2.1,x.2.2 || y.2.2)
 | k+1,i,x,y=>(lvD P (x.2.1-y.2.1) y).bind fun y1=>(ac4 x y1 i).bind fun c=>(fO P i (px P x.2.1 c.2) x c).bind fun x1=>mgD P k (i+1) x1 y1
def NU (P:SP) (x y:SS):DT SS:=(lvD P (y.2.1-x.2.1) x).bind fun x1=>mgD P x.1.length 0 x1 y
end Go.Proofs.YtcnlmelpnflhnaaGreat
