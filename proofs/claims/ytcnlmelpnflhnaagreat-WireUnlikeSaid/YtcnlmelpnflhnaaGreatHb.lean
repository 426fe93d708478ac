import Derived.Test.YtcnlmelpnflhnaaGreatHa
import Derived.Test.YtcnlmelpnflhnaaGreatFb
import Derived.Test.YtcnlmelpnflhnaaGreatSc
import Derived.Test.YtcnlmelpnflhnaaGreatPk
import Derived.Test.YtcnlmelpnflhnaaGreatE6
namespace Go.Proofs.YtcnlmelpnflhnaaGreat
open Go.Eng Go.Vx
set_option linter.unusedSimpArgs false
set_option linter.unusedVariables false
set_option maxRecDepth 100000
def ZY (k a b:Int):Prop:=∃k' a' b':Nat,k=k'∧a=a'∧b=b'∧aL k' a' b'
def cP (v k a b:Nat):Ob:=.cells [.ref v 0 0 0,.lit (.int .i64 (k:Int)),.lit (.int .i64 (a:Int)),.lit (.int .i64 (b:Int))]
def kA (k a b n w X:Nat):V:=.rref 4 [[.ptr 3 [[.row 1 ((words (aZ n w) X).map (ie .u64)),.lit (.int .i64 (n:Int)),.lit (.int .i64 (w:Int))]] 0 0,.lit (.int .i64 (k:Int)),.lit (.int .i64 (a:Int)),.lit (.int .i64 (b:Int))]] 0 0
attribute [go_sem] cP kA
def wd (k a b:Nat):Nat:=w1 k a b+w2 k a b+1
theorem dN {k a b:Nat} (h:aL k a b):1≤wd k a b∧wd k a b≤16:=by
 have:=AI h
 unfold wd;omega
theorem Ey {k a b n w X:Nat}:aA Tryz.prog 91 [kA k a b n w X] [] (pR k a b) []:=by
 refine zF pl Tryz.call91 Tryz.func91 [.cell 2 34] fun Q hQ=>?_;exact zE [] hQ
theorem oe {k a b n:Nat} (h:aL k a b) (hn:1≤n∧n≤256):aA Tryz.prog 79 [pR k a b,.lit (.int .i64 (n:Int))] [] (.tup [.ref 0 0 0 0,.lit (.int .i64 0)]) [some (cP 1 k a b),some (cC 2 n (wd k a b)),some (ch n (wd k a b) 0)]:=by
 have rc:=fL h;have rb:=wG h;have hw:=dN h;have nw:=Q4 (n:=n) (w:=wd k a b) hn.2 ⟨hw.1,by omega⟩;change aA _ _ _ _ (.lit (.int .i64 ((wd k a b:Nat):Int))) _ at rb;refine zF pl Tryz.call79 Tryz.func79 [.tmp 4,.tmp 5] fun Q hQ=>?_;generalize wd k a b=w at*
 refine ae ?_;refine zC rc ?_;refine zC rb ?_;refine zW [] [] nw ?_;exact ak [some 3,some 1,some 2] hQ
theorem FF {k a b:Nat} {s:Nat×Nat×Bool}:numOf (((bitsOf (pk (cD k a b s))).drop 0).take (wd k a b))=numOf (cD k a b s):=by
 show numOf (((bitsOf (pk (cD k a b s))).drop 0).take (w1 k a b+w2 k a b+1))=_;rw[oH,ajE,akv (dL k a b s)]
set_option maxHeartbeats 4000000 in
theorem nI {k a b n i:Nat} {N:List Nat} {s:Nat×Nat×Bool} (h:aL k a b) (w:aP k a b s) (hn:n≤256) (hi:i<n) (hN:N.length=n) (hl:∀x∈N,x<2^wd k a b):
 aA Tryz.prog 71 [.ref 0 0 0 0,.lit (.int .i64 (i:Int)),sR s] [some (cP 1 k a b),some (cC 2 n (wd k a b)),some (ch n (wd k a b) (aV (wd k a b) N))] (.lit (.int .i64 0))
  [some (cP 1 k a b),some (cC 2 n (wd k a b)),some (ch n (wd k a b) (aV (wd k a b) (N.set i (numOf (cD k a b s)))))]:=by
 have hw:=dN h;have hwl:(cD k a b s).length=wd k a b:=dL k a b s;have hlw:=aq (aZ n (wd k a b)) (aV (wd k a b) N);have g:=v9 (n:=n) (w:=wd k a b) (i:=i) (N:=N) hn ⟨hw.1,by omega⟩ hi hl;have wr:=oY (L:=[]) h w zd;rw[akq] at wr;have bf:=uv (L:=cD k a b s) zo;have hpl:=kQ (cD k a b s);have rd:=jM (B:=pk (cD k a b s)) zo
 have hI:ke (pk (cD k a b s)):=by
  intro x hx;unfold pk kp at hx;obtain ⟨j,_,rfl⟩:=akh.1 hx
  have:=ir (cD k a b s) j
  omega
 have nm:=bN (B:=pk (cD k a b s)) (p:=0) (w:=wd k a b) hI zo zo zo;rw[FF] at nm;have wdt:=yE (n:=n) (w:=wd k a b) (L:=words (aZ n (wd k a b)) (aV (wd k a b) N));have hx:numOf (cD k a b s)<2^wd k a b:=by rw[←hwl];exact dU _
 have st:=KB (n:=n) (w:=wd k a b) (i:=i) (x:=numOf (cD k a b s)) (N:=N) hn ⟨hw.1,by omega⟩ hi hx hN hl;refine zF PT Tryz.call71 Tryz.func71 [.tmp 6] fun Q hQ=>?_;refine ae ?_;refine aW (g) ?_;refine ae ?_;refine zW [some 4,none] [] wr ?_;refine bI (bf) ?_;refine ae ?_;refine zW [] [7] rd ?_;refine aW (wdt) ?_;refine ae ?_;refine zW [some 8] [] nm ?_;refine zW [some 1,some 2] [] st ?_;exact ak [some 0,some 1,some 2] hQ
open Go.Eng
def nf (r:SS):Prop:=r.2.2=false
theorem BW (P:SP) (i:Nat):∀(f:Nat) (st:SS) (c:Cell),(gy P i f st c).all (fun r=>r.1.length=st.1.length∧(st.2.2=true→r.2.2=true)):=by
 intro f
 induction f with
 | zero=>intro st c;exact⟨rfl,fun _=>rfl⟩
 | succ f ih=>
   intro st c;unfold gy
   split
   · exact⟨ajR,fun h=>h⟩
   · split
     · rw[all_bind];exact all_true fun c1=>ih st c1
     · split
       · rw[all_bind]
         refine bQ (fun r hr=>bQ (fun q hq=>⟨hq.1.trans hr,hq.2⟩) (ih (r.1,st.2.1+1,st.2.2) r.2)) (vt P st.2.1 i st.1 0 c).2.2.2
       · exact⟨ajR,fun _=>rfl⟩
theorem LX (P:SP) (st:SS) (i n:Nat):(td P st i n).all (fun r=>r.1.length=st.1.length∧(st.2.2=true→r.2.2=true)):=by
 unfold td;rw[all_bind];exact all_true fun a=>BW P i _ st _
def lvD (P:SP):Nat→SS→DT SS
 | 0,st=>.ret st
 | k+1,st=>(jc P st.2.1 (-1) st.1 0 (0,0)).bind fun r=>lvD P k (r.1,st.2.1+1,st.2.2)
def agA (x y:SS) (i:Nat):DT Cell:=
 (fc (iG (x.1.getD i (0,0)) x.2.1) (x.2.1*max (x.1.getD i (0,0)).2 (y.1.getD i (0,0)).2)).bind fun n=>
 (fc (iG (y.1.getD i (0,0)) x.2.1) (x.2.1*max (x.1.getD i (0,0)).2 (y.1.getD i (0,0)).2)).bind fun m=>.ret (n+m,max (x.1.getD i (0,0)).2 (y.1.getD i (0,0)).2)
def mgD (P:SP):Nat→Nat→SS→SS→DT SS
 | 0,_,x,y=>.ret (x.1,x.2.1,x.2.2 || y.2.2)
 | k+1,i,x,y=>(lvD P (x.2.1-y.2.1) y).bind fun y1=>(agA x y1 i).bind fun c=>(gy P i (qD P x.2.1 c.2) x c).bind fun x1=>mgD P k (i+1) x1 y1
def QQ (P:SP) (x y:SS):DT SS:=(lvD P (y.2.1-x.2.1) x).bind fun x1=>mgD P x.1.length 0 x1 y
variable {α:Type}
def DT.sub:DT α→List Bool→DT α
 | t,[]=>t
 | .ret a,_::_=>.ret a
 | .ask f g,b::bs=>(if b then g else f).sub bs
def wkS (val:α→Nat):DT α→Nat→Nat
 | .ret a,f=>val a*2^f
 | .ask _ _,0=>0
 | .ask g h,f+1=>wkS val g f+wkS val h f
def wkO:DT α→Nat→Bool
 | .ret _,_=>false
 | .ask _ _,0=>true
 | .ask g h,f+1=>wkO g f || wkO h f
def wkA (q:α→Bool):DT α→Nat→Bool
 | .ret a,_=>q a
 | .ask _ _,0=>false
 | .ask g h,f+1=>wkA q g f || wkA q h f
def aio (P:SP) (x y z:Nat):DT SS:=
 (td P ([(0,0),(0,0)],1,false) 0 x).bind fun a=>(td P a 1 y).bind fun b=>(td P b 0 z).bind fun c=>QQ P c c
end Go.Proofs.YtcnlmelpnflhnaaGreat

namespace Go.Vx
open Go.Eng
set_option linter.unusedSimpArgs false
set_option linter.unusedVariables false
theorem BX {α:Type} {l c:List α} {F:List α→Prop} (h:l.length=c.length):dp l 0 c F=F c:=by
 unfold dp;rw[if_pos zo,ajU,←h,alA,akj,akq,ake]
end Go.Vx
namespace Go.Proofs.YtcnlmelpnflhnaaGreat
open Go.Eng Go.Vx
set_option linter.unusedSimpArgs false
set_option linter.unusedVariables false
set_option maxRecDepth 100000
def k8 (i:Nat):List V:=(mj i).map V.lit
theorem qQ {i:Nat} (h:i≤256):(k8 i).length=256:=by unfold k8;rw[ajl,DY h]
theorem EZ:k8 0=List.map V.lit (List.replicate 256 (.int .u32 0)):=by unfold k8;rw[zD]
theorem Ip {i:Nat} (h:i<256):(k8 i).set i (.lit (.int .u32 ((entry i:Nat):Int)))=k8 (i+1):=by
 unfold k8;rw[←Du h,alC]
 rfl
theorem CQ {m:Nat} {G:V→Prop} (h:m<256):mh (k8 256) m G=G (.lit (.int .u32 ((entry m:Nat):Int))):=by
 unfold mh k8;rw[aj1,Eo h]
 rfl
theorem wY:∀C:List Value,lh.plnL (C.map V.lit)=true
 | []=>rfl
 | c::C=>by
   show(true&&lh.plnL (C.map V.lit))=true
   rw[wY C];rfl
theorem LO {ok:Nat→Bool} {π:Pi} {σ:St} {i:Nat}:qn ok π σ (k8 i) (k8 i)=True:=eq_true (lp (wY _))
attribute [go_sem ↓] LO
theorem IK:aA Tryz.prog 176 [] [] (.agg (k8 256)) []:=by
 refine zF pl Tryz.call176 Tryz.func176 [.cell 0 274] fun Q hQ=>?_;refine ae ?_;rw[←EZ]
 refine aR (X:=Nat) (st:=fun i=>([(0,.ref 0 0 0 0),(1,.ref 1 0 0 0),(5,.lit (.int .i64 (i:Int)))],[some (.cells (k8 0)),some (.cells (k8 i))]))
  (inv:=fun i=>i≤256) (m:=fun i=>256-i) 0 [some 0,some 1] zo ?_
 intro i hi;have hl:=qQ hi;have hl0:=qQ (i:=0) zo
 by_cases h:i<256
 · refine ae ?_
   refine aT (X:=Nat) (st:=fun k=>([(0,.ref 0 0 0 0),(1,.ref 1 0 0 0),(2,.lit (.int .i64 (i:Int))),(3,.lit (.int .u32 ((bZ i k:Nat):Int))),(5,.lit (.int .i64 (i:Int))),(10,.lit (.int .i64 (k:Int)))],[some (.cells (k8 0)),some (.cells (k8 i))]))
    (inv:=fun k=>k≤8) (m:=fun k=>8-k) 0 [some 0,some 1] rfl zM (by rw[show bZ i 0=i from rfl];exact zM) zo ?_
   intro k hk;have hlt:=gW (c:=i) zo k
   by_cases h8:k<8
   · have hs:bZ i (k+1)=iB (bZ i k):=rfl
     generalize bZ i k=c at*
     unfold iB at hs;have hcd:(c:Int)/2=((c/2:Nat):Int):=by omega
     have hx:cv .xor .u32 ((c/2:Nat):Int) 3988292384=((c/2^^^3988292384:Nat):Int):=vK (x:=c/2) (y:=3988292384) zo zd;have hm:(c:Int)%2=((c%2:Nat):Int):=by omega
     by_cases ho:c%2=1
     · rw[if_pos ho] at hs
       refine ej hcd hx ?_;refine aH (k+1) [some 0,some 1] rfl zM (by dsimp only;rw[hs];exact zM) zo zo
     · rw[if_neg ho] at hs
       refine ej hcd hx ?_;refine aH (k+1) [some 0,some 1] rfl zM (by dsimp only;rw[hs];exact zM) zo zo
   · obtain rfl:k=8:=by omega
     have hts:=Ip h;rw[show bZ i 8=entry i from rfl];refine ej @wb hts ?_;refine aM (i+1) [some 0,some 1] zo zo
 · obtain rfl:i=256:=by omega
   refine ej @Mt @BX ?_;exact ak [] hQ
theorem oO (y:Nat):IntKind.u8.wrap (y:Int)=((y%256:Nat):Int):=by
 unfold IntKind.wrap;have e:IntKind.u8.bits=8:=rfl;have e2:IntKind.u8.signed=false:=rfl;rw[e,e2]
 simp
theorem LK {c b:Nat} (hc:c<4294967296) (hb:b<256):
 cv .xor .u8 ((c%256:Nat):Int) (b:Int)=((c%256^^^b:Nat):Int)∧c%256^^^b<256∧cv .xor .u32 ((entry (c%256^^^b):Nat):Int) ((c:Int)/256)=((ms c b:Nat):Int):=by
 have h1:(c:Int)%256=((c%256:Nat):Int):=by omega
 have h2:(c:Int)/256=((c/256:Nat):Int):=by omega
 have h3:c%256^^^b<256:=alD (n:=8) (ajI _ zd) hb;refine⟨by rw[QJ zo hb],h3,?_⟩;rw[h2,vK (Hk h3) zo]
 rfl
theorem O1 {c:Nat} (h:c<4294967296):cv .xor .u32 (if IntKind.u32.signed then-1 else IntKind.u32.max) (c:Int)=((4294967295-c:Nat):Int):=by
 have e:(if IntKind.u32.signed then(-1:Int) else IntKind.u32.max)=((4294967295:Nat):Int):=by decide
 rw[e,vK zo h,Nat.xor_comm,←GX h]
theorem LF {l:List Nat} {s:Nat} (hl:∀x∈l,x<256) (hm:l.length<4294967296) (hs:s<4294967296):aA Tryz.prog 149 [.lit (.int .u32 s),.row 1 ((nl l).map (ie .u8))] [] (.lit (.int .u32 ((4294967295-oP (4294967295-s) l:Nat):Int))) []:=by
 refine zF pl Tryz.call149 Tryz.func149 [.tmp 4] fun Q hQ=>?_;have hnl:=ay l;have hl0:=qQ (i:=256) zo;refine ae ?_;refine aB (IK) rfl rfl ?_;have hns:=O1 hs;have h1c:bF (Value.int .u32 0)=true:=rfl;refine PN @BX hns false_or h1c @LU ?_
 refine aT (X:=Nat) (st:=fun i=>([(5,.ref 0 0 0 0),(6,.lit (.int .u32 ((oP (4294967295-s) (l.take i):Nat):Int))),(12,.row 1 ((nl l).map (ie .u8))),(13,.lit (.int .i64 (l.length:Int))),(14,.lit (.int .i64 (i:Int)))],[some (.cells (k8 256))]))
  (inv:=fun i=>i≤l.length) (m:=fun i=>l.length-i) 0 [some 0] rfl zM (by rw[akj,show oP (4294967295-s) []=4294967295-s from rfl];exact zM) zo ?_
 intro i hi;have hlt:=De (l:=l.take i) (c:=4294967295-s) (fun x hx=>hl x (ajM hx)) zo
 by_cases h:i<l.length
 · have hg:=bD l i
   have hb:=Bb hl i;have hn:oP (4294967295-s) (l.take (i+1))=ms (oP (4294967295-s) (l.take i)) (l.getD i 0):=by rw[gk h,Iw];rfl
   generalize oP (4294967295-s) (l.take i)=c at*
   generalize l.getD i 0=b at*
   obtain ⟨m1,m2,m3⟩:=LK (b:=b) hlt hb;have ha:=CQ (m:=c%256^^^b) (G:=fun v=>True) m2
   simp(maxSteps:=1000000) (disch:=(first | omega | (simp only[cQ,ajl,ajo,true_and,and_true];(try omega);done) | fail)) only[go_sem,hg,oO,m1,CQ m2,m3,Int.reduceEq,Int.reduceToNat,Nat.reduceAdd,Nat.reduceMul,Nat.reduceEqDiff, ↓reduceIte]
   refine aH (i+1) [some 0] rfl zM (by dsimp only;rw[hn];exact zM) zo zo
 · have hns2:=O1 hlt
   obtain rfl:i=l.length:=by omega
   rw[ajz] at*
   refine br hns2 ?_;exact ak [] hQ
theorem Jw {l:List Nat} (hl:∀x∈l,x<256) (hm:l.length<4294967296):aA Tryz.prog 101 [.row 1 ((nl l).map (ie .u8))] [] (.lit (.int .u32 ((ij l:Nat):Int))) []:=by
 refine zF pl Tryz.call101 Tryz.func101 [.tmp 2] fun Q hQ=>?_;have h0:=LF (l:=l) (s:=0) hl hm zd;rw[Nat.sub_zero,show 4294967295-oP 4294967295 l=ij l from rfl] at h0;refine ae ?_;refine zC h0 ?_;exact ak [] hQ
theorem uc {B:List Int} (hB:B.length≤140737488355327):aA Tryz.prog 100 [.row 1 (B.map (ie .u8))] [] (.sl 0 1 0 B.length) [some (.row 1 (B.map (ie .u8)))]:=by
 refine zF pl Tryz.call100 Tryz.func100 [.tmp 2] fun Q hQ=>?_
 by_cases h:B=[]
 · subst h
   refine Zu ?_;refine jn ?_ ?_
   · refine ae ?_
     exact ak [none] hQ
   · refine ae ?_
     exact ak [some 1] hQ
 · have he:(B.map (ie .u8)).isEmpty=false:=by simp[h]
   refine br he ?_;exact ak [some 1] hQ
theorem Da (s j:Nat) (hj:j<4):(jd s).getD j 0=s/2^(8*(3-j))%256:=by
 rcases (show j=0∨j=1∨j=2∨j=3 by omega) with rfl | rfl | rfl | rfl<;>simp[jd]
theorem Dh {l:List Nat} (hl:∀x∈l,x<256) (hm:l.length<1000000):aA Tryz.prog 44 [.row 1 ((nl l).map (ie .u8))] [] (.row 1 ((nl (bV l)).map (ie .u8))) []:=by
 refine zF pl Tryz.call44 Tryz.func44 [.tmp 2] fun Q hQ=>?_;have hnl:=ay l;refine ae ?_;refine zW [] [] (uc (B:=nl l) zo) ?_;refine zC (Jw hl zo) ?_;have hs:=Ce l
 refine aT (X:=Nat) (st:=fun j=>([(3,.sl 0 1 0 (l.length+j)),(4,.lit (.int .i64 (3-(j:Int)))),(5,.lit (.int .u32 ((ij l:Nat):Int)))],[some (.row 1 ((nl (l++(jd (ij l)).take j)).map (ie .u8)))]))
  (inv:=fun j=>j≤4) (m:=fun j=>4-j) 0 [some 0] rfl (by rw[akj,ake];exact zM) zM zo ?_
 intro j hj;have hll:(nl (l++(jd (ij l)).take j)).length=l.length+j:=by rw[ay];simp[jd];omega
 by_cases h:j<4
 · have ht:nl (l++(jd (ij l)).take (j+1))=nl (l++(jd (ij l)).take j)++[((ij l/2^(8*(3-j))%256:Nat):Int)]:=by
    rw[gk (by simp[jd];omega),Da _ _ h];simp[nl]
   have h83:((8:Int)*(3-(j:Int))).toNat=8*(3-j):=by omega
   have hdv:=gQ (ij l) (8*(3-j));generalize ij l/2^(8*(3-j))=q at*
   refine qZ h83 hdv @oO ?_;refine aH (j+1) [some 2] rfl (by dsimp only;rw[ht];exact zM) zM zo zo
 · obtain rfl:j=4:=by omega
   have e:l++(jd (ij l)).take 4=bV l:=rfl;rw[e] at*
   have hsl:=g9 l;have hns:=ay (bV l);exact zE [] hQ
theorem gT {A B:List Int} (hA:A.length≤1099511627776) (hB:B.length≤1099511627776):aA Tryz.prog 51 [.row 1 (A.map (ie .u8)),.row 1 (B.map (ie .u8))] [] (.lit (.bool (decide (A=B)))) []:=by
 refine zF YG Tryz.call51 Tryz.func51 [.tmp 4] fun Q hQ=>?_
 by_cases hl:A.length=B.length
 · refine ae ?_
   refine aR (X:=Nat) (st:=fun i=>([(0,.row 1 (A.map (ie .u8))),(1,.row 1 (B.map (ie .u8))),(12,.lit (.int .i64 (A.length:Int))),(13,.lit (.int .i64 (i:Int)))],[]))
    (inv:=fun i=>i≤A.length∧A.take i=B.take i) (m:=fun i=>A.length-i) 0 [] ⟨by omega,by simp⟩ ?_
   rintro i ⟨hi,ht⟩
   by_cases h:i<A.length
   · have hs:=rA h (show i<B.length by omega)
     by_cases he:A.getD i 0=B.getD i 0
     · refine ae ?_
       refine aM (i+1) [] ⟨by omega,hs.2 ⟨ht,he⟩⟩ zo
     · refine ae ?_
       rw[ajn (fun e=>he (by rw[e]))] at hQ;exact ak [] hQ
   · obtain rfl:i=A.length:=by omega
     rw[ajz,hl,ajz] at ht;rw[aju ht] at hQ;exact zE [] hQ
 · rw[ajn (fun e=>hl (by rw[e]))] at hQ
   exact zE [] hQ
theorem L9 (l:List Nat) (n:Nat):(nl l).take n=nl (l.take n):=by simp[nl,als]
theorem oa {l:List Nat} (hl:∀x∈l,x<256) (hm:l.length<1000000) (h4:4≤l.length) (h:bV (l.take (l.length-4))=l):aA Tryz.prog 46 [.row 1 ((nl l).map (ie .u8))] [] (.tup [.row 1 ((nl (l.take (l.length-4))).map (ie .u8)),.lit (.int .i64 0)]) []:=by
 refine zF pl Tryz.call46 Tryz.func46 [.tmp 2,.tmp 3] fun Q hQ=>?_;have hnl:=ay l;have ht:((l.length:Int)-4).toNat=l.length-4:=by omega
 have htk:=L9 l (l.length-4);have hll:(l.take (l.length-4)).length=l.length-4:=by simp
 have hnt:=ay (l.take (l.length-4));refine qZ hnl ht htk ?_;refine aB (Dh (l:=l.take (l.length-4)) (fun x hx=>hl x (ajM hx)) zo) rfl rfl ?_;rw[h];refine ae ?_;refine aB (gT (A:=nl l) (B:=nl l) zo zo) rfl rfl ?_;rw[aju rfl];refine qZ hnl ht htk ?_;refine zC (uF (B:=nl (l.take (l.length-4))) zo) ?_;exact ak [] hQ
def ag2 (c bit:Nat):Nat:=if c%2=bit then c/2 else(c/2)^^^3988292384
def bst (x b k:Nat):Nat:=bZ x k^^^(b/2^k)
end Go.Proofs.YtcnlmelpnflhnaaGreat
