import Derived.Test.YtcnlmelpnflhnaaGreatAb
import Derived.Test.YtcnlmelpnflhnaaGreatHa
import Derived.Test.YtcnlmelpnflhnaaGreatFw
import Derived.Test.YtcnlmelpnflhnaaGreatOb
import Derived.Test.YtcnlmelpnflhnaaGreatAa
import Derived.Test.YtcnlmelpnflhnaaGreatRa
namespace Go.Proofs.YtcnlmelpnflhnaaGreat
open Go.Eng Go.Vx
set_option linter.unusedSimpArgs false
set_option linter.unusedVariables false
set_option maxRecDepth 100000
theorem vA {L:List Bool} {P D p:Nat} (hL:L.length≤1048576) (hD:¬(D=0∨D<P)) (hPD:P≠D) (hP:(wg P).length≤500000) (hD1:(wg D).length≤500000):aA Tryz.prog 189 [.ref 0 0 0 0,NV P,NV D] [some (bm L p true)]
 (.tup [.lit (.bool false),.I (if P=0 then 0 else 8)]) [some (bm L p true)]:=by
 refine zF pl Tryz.call189 Tryz.func189 [.tmp 6,.tmp 7] fun Q hQ=>?_;refine ae ?_;refine aC (ql (P:=P) (D:=D) zo zo) rfl rfl ?_;rw[aks hD];refine ae ?_;refine aC (dS (n:=P) zo) rfl rfl ?_
 by_cases h2:P=0
 · rw[aks h2]
   rw[if_pos h2] at hQ;exact zE [some 0] hQ
 · rw[akg h2]
   rw[if_neg h2] at hQ;refine ae ?_
   refine aU (X:=Unit) (st:=fun z=>([(0,.ref 0 0 0 0),(4,.ref 1 0 0 0),(5,.ref 2 0 0 0),(8,.ref 3 0 0 0)],[some (bm L p true),some (.cells [.row 1 ((nl (wg P)).map (ie .u64))]),some (.cells [.row 1 ((nl (wg D)).map (ie .u64))]),some (.cells [.row 1 ((nl (wg P)).map (ie .u64))])]))
    (inv:=fun _=>True) (m:=fun _=>0) () [some 0,some 1,some 2,some 3] trivial ?_
   intro _ _;have hc:=fA.2 (show P<D by omega);refine ae ?_;refine aC (fE (a:=P) (b:=D) zo zo) rfl rfl ?_;refine bg (aks hc) ?_;refine zW [some 0] [] (gJ (L:=L) (p:=p) (d:=true) hL (.inl rfl)) ?_;exact ai [some 0] hQ
theorem EU {L:List Bool} {p Y:Nat} (hL:L.length≤1048576) (hY:Y<9223372036854775807):aA Tryz.prog 194 [.ref 0 0 0 0,.I Y] [some (bm L p true)]
 (.tup [.I 0,.I (if Y=0 then 0 else 8)]) [some (bm L p true)]:=by
 refine zF pl Tryz.call194 Tryz.func194 [.tmp 4,.tmp 5] fun Q hQ=>?_;have hy:max 0 (Y:Int)=(Y:Int):=by omega
 refine bg hy ?_
 refine aU (X:=Unit) (st:=fun i=>([(0,.ref 0 0 0 0),(6,.I 0),(10,.I Y),(11,.I 0)],[some (bm L p true)]))
  (inv:=fun i=>True) (m:=fun i=>0) () [some 0] trivial ?_
 intro _ _
 by_cases h:Y=0
 · rw[if_pos h] at hQ
   exact zE [some 0] hQ
 · rw[if_neg h] at hQ
   refine ae ?_;refine zW [some 0] [] (gJ (L:=L) (p:=p) (d:=true) hL (.inl rfl)) ?_;exact ai [some 0] hQ
theorem QD {L:List Bool} {p Y:Nat} (d:Bool) (hL:L.length≤1048576) (hp:p≤L.length) (hY:Y≤1000):∃(b:Nat) (f:Int) (q:Nat) (d':Bool),aA Tryz.prog 194 [.ref 0 0 0 0,.I Y] [some (bm L p d)] (.tup [.I b,.I f]) [some (bm L q d')]∧b≤Y∧q≤L.length∧(f=0∧d'=d∧(d=true→Y=0)∨f=8∧d'=true∧0<Y):=by
 cases d with
 | true=>
   have h:=EU (L:=L) (p:=p) (Y:=Y) hL zo;refine⟨0,_,p,true,h,akF _,hp,?_⟩
   by_cases h0:Y=0
   · exact .inl ⟨if_pos h0,rfl,fun _=>h0⟩
   · exact .inr ⟨if_neg h0,rfl,by omega⟩
 | false=>
   have h:=IM (L:=L) (p:=p) (Y:=Y) (y:=(Y:Int)) hL hp zo zo;have hc:=Kh ((L.drop p).take Y);rw[akr] at hc
   by_cases h0:p+Y≤L.length
   · have e:Ci L Y p=_:=if_pos h0
     rw[e] at h;exact⟨_,_,_,_,h,by omega,h0,.inl ⟨rfl,rfl,fun h=>by cases h⟩⟩
   · have e:Ci L Y p=_:=if_neg h0
     rw[e] at h;exact⟨0,_,_,_,h,akF _,akk _,.inr ⟨rfl,rfl,by omega⟩⟩
def cX (v k a b:Nat):Ob:=.cells [.ref v 0 0 0,.I k,.I a,.I b]
def kO (k a b n w X:Nat):V:=.rref 4 [[.ptr 3 [[.row 1 ((words (bq n w) X).map (ie .u64)),.I n,.I w]] 0 0,.I k,.I a,.I b]] 0 0
attribute [go_sem] cX kO
def wd (k a b:Nat):Nat:=w1 k a b+w2 k a b+1
theorem ff {k a b:Nat} (h:aX k a b):1≤wd k a b∧wd k a b≤16:=by
 have:=Bh h
 unfold wd;omega
theorem Fg {k a b n w X:Nat}:aA Tryz.prog 91 [kO k a b n w X] [] (pR k a b) []:=by
 refine zF pl Tryz.call91 Tryz.func91 [.cell 2 34] fun Q hQ=>?_;exact zE [] hQ
theorem oF {k a b n:Nat} (h:aX k a b) (hn:1≤n∧n≤256):aA Tryz.prog 79 [pR k a b,.I n] [] (.tup [.ref 0 0 0 0,.I 0]) [some (cX 1 k a b),some (cI 2 n (wd k a b)),some (cx n (wd k a b) 0)]:=by
 have rc:=fg h;have rb:=w8 h;have hw:=ff h;have nw:=Ss (n:=n) (w:=wd k a b) hn.2 ⟨hw.1,by omega⟩;change aA _ _ _ _ (.I ((wd k a b:Nat):Int)) _ at rb;refine zF pl Tryz.call79 Tryz.func79 [.tmp 4,.tmp 5] fun Q hQ=>?_;generalize wd k a b=w at*
 refine ae ?_;refine zC rc ?_;refine zC rb ?_;refine zW [] [] nw ?_;exact ai [some 3,some 1,some 2] hQ
theorem Gu {k a b:Nat} {s:Nat×Nat×Bool}:numOf (((bitsOf (pk (dr k a b s))).drop 0).take (wd k a b))=numOf (dr k a b s):=by
 show numOf (((bitsOf (pk (dr k a b s))).drop 0).take (w1 k a b+w2 k a b+1))=_;rw[oU,akv,alo (ey k a b s)]
set_option maxHeartbeats 4000000 in
theorem nV {k a b n i:Nat} {N:List Nat} {s:Nat×Nat×Bool} (h:aX k a b) (w:aZ k a b s) (hn:n≤256) (hi:i<n) (hN:N.length=n) (hl:∀x∈N,x<2^wd k a b):
 aA Tryz.prog 71 [.ref 0 0 0 0,.I i,sR s] [some (cX 1 k a b),some (cI 2 n (wd k a b)),some (cx n (wd k a b) (bj (wd k a b) N))] (.I 0)
  [some (cX 1 k a b),some (cI 2 n (wd k a b)),some (cx n (wd k a b) (bj (wd k a b) (N.set i (numOf (dr k a b s)))))]:=by
 have hw:=ff h;have hwl:(dr k a b s).length=wd k a b:=ey k a b s;have hlw:=aB (bq n (wd k a b)) (bj (wd k a b) N);have g:=wI (n:=n) (w:=wd k a b) (i:=i) (N:=N) hn ⟨hw.1,by omega⟩ hi hl;have wr:=po (L:=[]) h w zd;rw[aln] at wr;have bf:=uU (L:=dr k a b s) zo;have hpl:=k9 (dr k a b s);have rd:=db (B:=pk (dr k a b s)) zo
 have hI:gQ (pk (dr k a b s)):=by
  intro x hx;unfold pk kK at hx;obtain ⟨j,_,rfl⟩:=alb.1 hx
  have:=iz (dr k a b s) j
  omega
 have nm:=aP (B:=pk (dr k a b s)) (p:=0) (w:=wd k a b) hI zo zo zo;rw[Gu] at nm;have wdt:=yX (n:=n) (w:=wd k a b) (L:=words (bq n (wd k a b)) (bj (wd k a b) N));have hx:numOf (dr k a b s)<2^wd k a b:=by rw[←hwl];exact dw _
 have st:=L3 (n:=n) (w:=wd k a b) (i:=i) (x:=numOf (dr k a b s)) (N:=N) hn ⟨hw.1,by omega⟩ hi hx hN hl;refine zF Re Tryz.call71 Tryz.func71 [.tmp 6] fun Q hQ=>?_;refine ae ?_;refine ch (g) ?_;refine ae ?_;refine zW [some 4,none] [] wr ?_;refine dk (bf) ?_;refine ae ?_;refine zW [] [7] rd ?_;refine ch (wdt) ?_;refine ae ?_;refine zW [some 8] [] nm ?_;refine zW [some 1,some 2] [] st ?_;exact ai [some 0,some 1,some 2] hQ
instance wellN_dec {k a b:Nat} {s:Nat×Nat×Bool}:Decidable (aZ k a b s):=by unfold aZ;exact inferInstance
theorem EI {a b:Nat} {s:Nat×Nat×Bool} (h1:1≤a) (h2:a≤1023) (h3:b≤20) (h:¬(s.1≤a∧s.2.1≤b∧(s.2.2=true→s.2.1=b))):aA Tryz.prog 145 [.agg [.I a,.I b],sR s] [] (.lit (.bool false)) []:=by
 have c:=l7 h1 h2 h3;obtain ⟨K,T,F⟩:=s;dsimp only at h;refine zF pl Tryz.call145 Tryz.func145 [.tmp 4] fun Q hQ=>?_
 by_cases w1:K≤a
 · by_cases w2:T≤b
   · have w3:F=true∧T≠b:=by
      cases F with
      | true=>exact⟨rfl,fun e=>h ⟨w1,w2,fun _=>e⟩⟩
      | false=>exact absurd ⟨w1,w2,fun e=>by cases e⟩ h
     obtain ⟨rfl,w3⟩:=w3;refine ae ?_;refine zC c ?_;exact ai [] hQ
   · refine ae ?_
     refine zC c ?_;exact ai [] hQ
 · refine ae ?_
   refine zC c ?_;exact ai [] hQ
set_option maxHeartbeats 1000000 in
theorem EL {k a b:Nat} {s:Nat×Nat×Bool} (h:aX k a b) (w:¬aZ k a b s):aA Tryz.prog 86 [pR k a b,sR s] [] (.lit (.bool false)) []:=by
 have rc:=fg h;refine zF NR Tryz.call86 Tryz.func86 [.tmp 4] fun Q hQ=>?_
 by_cases h4:k=4
 · obtain ⟨h1,h2,h3⟩:1≤a∧a≤1023∧b≤20:=by rcases h with h | h | h | h<;>omega
   unfold aZ at w;rw[if_pos h4] at w;have tw:=EI h1 h2 h3 w;have t:=kD (k:=(k:Int)) (a:=(a:Int)) (b:=(b:Int));have tt:=kY (K:=(s.1:Int)) (T:=(s.2.1:Int)) (F:=s.2.2);refine ae ?_;refine zC rc ?_
   repeat (first | (refine aC (t) rfl rfl ?_) | (refine aC (tt) rfl rfl ?_) | (refine aC (tw) rfl rfl ?_) | (refine ae ?_))
   exact ai [] hQ
 · have ct:=nK h h4
   have t:=jv (k:=(k:Int)) (a:=(a:Int)) (b:=(b:Int));unfold aZ at w;rw[if_neg h4] at w;obtain ⟨K,T,F⟩:=s;dsimp only at w;generalize 2^b-1=m at*
   refine ae ?_;refine zC rc ?_;refine zC t ?_;refine aC (ct) rfl rfl ?_
   by_cases w1:T=0
   · subst w1
     by_cases w2:K≤m
     · have w3:F=true∧K≠m:=by
        cases F with
        | true=>exact⟨rfl,fun e=>w ⟨rfl,w2,fun _=>e⟩⟩
        | false=>exact absurd ⟨rfl,w2,fun e=>by cases e⟩ w
       obtain ⟨rfl,w3⟩:=w3;exact zE [] hQ
     · refine ae ?_
       exact ai [] hQ
   · refine ae ?_
     exact ai [] hQ
theorem Fv {k a b:Nat} {s:Nat×Nat×Bool} (h:aX k a b):aA Tryz.prog 86 [pR k a b,sR s] [] (.lit (.bool (decide (aZ k a b s)))) []:=by
 by_cases w:aZ k a b s
 · rw[aks w];exact rE h w
 · rw[akg w];exact EL h w
def Fx (L:List Bool) (k a b p:Nat):Nat×Nat×Bool:=(numOf ((L.drop p).take (w1 k a b)),numOf ((L.drop (p+w1 k a b)).take (w2 k a b)),L.getD (p+w1 k a b+w2 k a b) false)
def uS (L:List Bool) (k a b p:Nat):Option (Nat×Nat×Bool)×Nat×Int:=
 if p+wd k a b≤L.length then(if aZ k a b (Fx L k a b p) then(some (Fx L k a b p),p+wd k a b,0) else(none,p+wd k a b,4)) else(none,p,5)
def fM:Option (Nat×Nat×Bool)→V
 | some s=>sR s
 | none=>.agg [.I 0,.I 0,.lit (.bool false)]
@[go_sem] theorem XM {s:Nat×Nat×Bool}:fM (some s)=sR s:=(rfl)
@[go_sem] theorem aaX:fM none=.agg [.I 0,.I 0,.lit (.bool false)]:=(rfl)
def rdQ (B:List Int) (p:Nat):V:=.rref 2 [[.row 1 (B.map (ie .u8)),.I p]] 0 0
attribute [go_sem] rdQ
theorem Iv {B:List Int} {p:Nat} (hB:B.length≤1099511627776) (hp:p≤8*B.length):aA Tryz.prog 102 [rdQ B p] [] (.I ((8*B.length-p:Nat):Int)) []:=by
 refine zF DW Tryz.call102 Tryz.func102 [.tmp 2] fun Q hQ=>?_;refine ae ?_;rw[show((8:Int)*(B.length:Int)-(p:Int))=((8*B.length-p:Nat):Int) by omega];exact ai [] hQ
set_option maxHeartbeats 2000000 in
theorem qS {k a b p:Nat} {B:List Int} (h:aX k a b) (hI:gQ B) (hB:B.length≤1099511627776) (hp:p≤8*B.length):
 aA Tryz.prog 105 [pR k a b,.ref 0 0 0 0] [some (bU B p)] (.tup [fM (uS (bitsOf B) k a b p).1,.I (uS (bitsOf B) k a b p).2.2]) [some (bU B (uS (bitsOf B) k a b p).2.1)]:=by
 have hbl:=aG B;have rc:=fg h;have rb:=w8 h;have ws:=mX h;have hw:=Bh h;have lf:=Iv hB hp;have hwd:=ff h;unfold wd at hwd;unfold uS wd;refine zF IH Tryz.call105 Tryz.func105 [.cell 4 36,.tmp 5] fun Q hQ=>?_
 by_cases h1:p+(w1 k a b+w2 k a b+1)≤(bitsOf B).length
 · rw[if_pos h1] at hQ
   have n1:=aP (B:=B) (p:=p) (w:=w1 k a b) hI hB zo zo;have n2:=aP (B:=B) (p:=p+w1 k a b) (w:=w2 k a b) hI hB zo zo;have b1:=rk (B:=B) (p:=p+w1 k a b+w2 k a b) hI hB zo;rw[As zo] at b1;dsimp only at b1;rw[show decide (((bitsOf B).getD (p+w1 k a b+w2 k a b) false).toNat=1)=(bitsOf B).getD (p+w1 k a b+w2 k a b) false by cases (bitsOf B).getD (p+w1 k a b+w2 k a b) false<;>rfl] at b1;have hk:=aL ((bitsOf B).drop p) (w1 k a b);have ht:=aL ((bitsOf B).drop (p+w1 k a b)) (w2 k a b);have hpx:2^w1 k a b≤2^10:=Nat.pow_le_pow_right zd hw.1;have hpy:2^w2 k a b≤2^5:=Nat.pow_le_pow_right zd hw.2;have wl:=Fv (s:=Fx (bitsOf B) k a b p) h;unfold Fx at hQ wl;generalize numOf (((bitsOf B).drop p).take (w1 k a b))=K at*
   generalize numOf (((bitsOf B).drop (p+w1 k a b)).take (w2 k a b))=T at*
   generalize (bitsOf B).getD (p+w1 k a b+w2 k a b) false=F at*
   by_cases hwl:aZ k a b (K,T,F)
   · rw[if_pos hwl] at hQ
     rw[aks hwl] at wl;refine ae ?_;refine zC rc ?_;refine ch (lf) ?_;refine ae ?_;refine zC rb ?_;refine zC ws ?_;refine zW [some 0] [] n1 ?_;refine zW [some 0] [] n2 ?_;refine zW [some 0] [] b1 ?_;refine zC wl ?_;exact ai [some 0] hQ
   · rw[if_neg hwl] at hQ
     rw[akg hwl] at wl;refine ae ?_;refine zC rc ?_;refine ch (lf) ?_;refine ae ?_;refine zC rb ?_;refine zC ws ?_;refine zW [some 0] [] n1 ?_;refine zW [some 0] [] n2 ?_;refine zW [some 0] [] b1 ?_;refine zC wl ?_;exact ai [some 0] hQ
 · rw[if_neg h1] at hQ
   refine ae ?_;refine zC rc ?_;refine ch (lf) ?_;refine ae ?_;refine zC rb ?_;exact ai [some 0] hQ
theorem qE:∀{X:List (Nat×Nat)},(∀x∈X,1≤x.2∧x.2≤1048576)→(kp X).length≤X.length*102
 | [],_=>akk _
 | x::X,h=>by
   obtain ⟨h1,h2⟩:=h x (by simp);have ih:=qE (X:=X) fun y hy=>h y (by simp[hy]);have hg:=m6 (n:=x.2) zo;have hb:=bI (n:=x.2) (k:=21) zo;rw[jL,ake,ake,aj,akm];omega
theorem mT {n:Nat} (h:n≤1048576):(cR n).length≤24:=by
 have hb:=bI (n:=n) (k:=21) zo;rw[rF];omega
theorem HL {X:List (Nat×Nat)} {i:Nat} {x:Nat×Nat} (h:X[i]? =some x):kp (X.take (i+1))=kp (X.take i)++numBits x.1 61++ay x.2:=by
 rw[ama,h,M8];simp[kp]
theorem rM {K P:Int} {C:Nat} (h:mz K P C):aA Tryz.prog 34 [.agg [.I K,.I P,.I C]] [] (.tup [.ref 0 0 0 0,.I 0])
 [some (.cells [.I K,.I P,.I C,.sl 1 2 0 C,.I 0]),some (.row 2 ((List.replicate C ((0:Nat),(0:Nat))).map sV))]:=by
 have hc:=FU h;obtain ⟨h,h1,h2⟩:=h;have e:(List.replicate C ((0:Nat),(0:Nat))).map sV=dV [.int .u64 0,.int .i64 0] C:=by rw[List.map_replicate];rfl
 have el:(dV [Value.int IntKind.u64 0,Value.int IntKind.i64 0] C).length=C:=by unfold dV;rw[akB]
 have et:List.take C (dV [Value.int IntKind.u64 0,Value.int IntKind.i64 0] C)=dV [Value.int IntKind.u64 0,Value.int IntKind.i64 0] C:=aku (Nat.le_of_eq el);refine zF Sy Tryz.call34 Tryz.func34 [.tmp 2,.tmp 3] fun Q hQ=>?_;rw[e] at hQ;refine ae ?_;refine zC hc ?_;generalize dV [Value.int IntKind.u64 0,Value.int IntKind.i64 0] C=zr at*
 exact ai [some 2,some 1] hQ
def KT (r:Option (List (Nat×Nat)×Nat)×Nat×Int):V:=match r.1 with
 | some _=>.tup [.ref 1 0 0 0,.I 0]
 | none=>.tup [.lit (.pointer none),.I r.2.2]
def HH (K P C:Int) (B:List Int) (r:Option (List (Nat×Nat)×Nat)×Nat×Int):St:=match r.1 with
 | some x=> [some (bU B r.2.1),some (oH K P C x.1 x.2)]
 | none=> [some (bU B r.2.1)]
set_option maxHeartbeats 4000000 in
theorem JK {K P:Int} {C p:Nat} {B:List Int} (h:mz K P C) (hI:gQ B) (hB:B.length≤1099511627776) (hp:p≤8*B.length):
 aA Tryz.prog 110 [.ref 0 0 0 0,.agg [.I K,.I P,.I C]] [some (bU B p)] (KT (tE (bitsOf B) C p)) (HH K P C B (tE (bitsOf B) C p)):=by
 have hn:=rM h;have hbl:=aG B;have hC16:C≤16:=by have:=h.2;omega
 have vv:=JY hI hB hp;have hvq:(vX (bitsOf B) p).2.1≤(bitsOf B).length:=si _ _ _ _ zo;have hz:(List.replicate C ((0:Nat),(0:Nat))).length=C:=akB;refine zF pl Tryz.call110 Tryz.func110 [.tmp 4,.tmp 5] fun Q hQ=>?_;unfold tE at hQ;generalize hz0:List.replicate C ((0:Nat),(0:Nat))=z0 at*
 generalize vX (bitsOf B) p=v at*
 obtain ⟨T,q0,ev⟩:=v;dsimp only at vv hvq hQ;refine ae ?_;refine zW [] [] hn ?_;refine aF [some 0] [] (vv) ?_
 by_cases he:ev=0
 · subst he
   rw[if_pos rfl] at hQ
   by_cases hT:1048576<T
   · rw[if_pos hT] at hQ
     unfold KT HH at hQ;dsimp only at hQ;exact zE [some 0] hQ
   · rw[if_neg hT] at hQ
     by_cases hT0:T=0
     · rw[if_pos hT0] at hQ
       unfold KT HH at hQ;dsimp only at hQ;exact zE [some 0,some 2] hQ
     · rw[if_neg hT0] at hQ
       refine ae ?_
       refine aU (X:=Nat×List (Nat×Nat)×Nat) (st:=fun y=>([(0,.ref 0 0 0 0),(6,.ref 1 0 0 0),(8,.lit (.int .u64 T)),(46,.I C),(47,.I y.1)],
        [some (bU B y.2.2),some (.cells [.I K,.I P,.I C,.sl 2 2 0 C,.I T]),some (.row 2 (y.2.1.map sV))]))
        (inv:=fun y=>y.1≤C∧y.2.1.length=C∧y.2.2≤(bitsOf B).length∧kH (bitsOf B) T C q0=((kH (bitsOf B) T (C-y.1) y.2.2).1.map (y.2.1.take y.1++ ·),(kH (bitsOf B) T (C-y.1) y.2.2).2)) (m:=fun y=>C-y.1)
        (0,z0,q0) [some 0,some 2,some 3] ⟨akF _,hz,hvq,by simp⟩ ?_
       rintro ⟨i,Y,q⟩ ⟨hi,hY,hq,hr⟩;dsimp only at hi hY hq hr ⊢
       by_cases hil:i<C
       · obtain ⟨c,hc⟩:∃c,C-i=c+1:=⟨C-i-1,by omega⟩
         rw[hc] at hr
         by_cases h61:q+61≤(bitsOf B).length
         · have rn:=aP (B:=B) (p:=q) (w:=61) hI hB zd zo
           rw[show((61:Nat):Int)=61 from rfl] at rn;have gm:=xp (p:=q+61) hI hB zo;have hgq:=Kz h61;have hgl:=Hl (L:=bitsOf B) (p:=q+61);have hkl:numOf (((bitsOf B).drop q).take 61)<2305843009213693952:=aL _ 61;rw[yl] at hr;rw[if_pos h61] at hr;generalize gX (bitsOf B) (q+61)=g at*
           obtain ⟨n,q2,e2⟩:=g;dsimp only at gm hgq hgl hr;generalize numOf (((bitsOf B).drop q).take 61)=key at*
           by_cases he2:e2=0
           · subst he2
             rw[if_pos rfl] at hr
             by_cases hk1:2305843009213693951≤key
             · rw[if_pos (.inl hk1)] at hr
               rw[hr] at hQ;unfold KT HH at hQ;dsimp only[Option.map] at hQ;refine ae ?_;refine zW [some 0] [] rn ?_;refine zW [some 0] [] gm ?_;exact ai [some 0] hQ
             · by_cases hk2:T<n
               · rw[if_pos (.inr hk2)] at hr
                 rw[hr] at hQ;unfold KT HH at hQ;dsimp only[Option.map] at hQ;refine ae ?_;refine zW [some 0] [] rn ?_;refine zW [some 0] [] gm ?_;exact ai [some 0] hQ
               · rw[if_neg zo] at hr
                 have hset:(Y.map sV).set i [.lit (.int .u64 key),.I n]=(Y.set i (key,n)).map sV:=by rw[amD];rfl
                 have ht:(Y.set i (key,n)).take (i+1)=Y.take i++[(key,n)]:=by
                  rw[akL (by rw[akJ];omega),amv (akk i)]
                  simp
                 refine ae ?_;refine zW [some 0] [] rn ?_;refine aF [some 0] [] (gm) ?_;refine bg hset ?_;refine aR (i+1,Y.set i (key,n),q2) [some 0,some 1,some 2] ⟨hil,by rw[List.length_set];exact hY,hgq,?_⟩ (by dsimp only;omega);dsimp only;rw[hr,show C-(i+1)=c by omega,ht,Option.map_map]
                 congr 2
                 funext l
                 simp
           · rw[if_neg he2] at hr
             rw[hr] at hQ;unfold KT HH at hQ;dsimp only[Option.map] at hQ;refine ae ?_;refine zW [some 0] [] rn ?_;refine zW [some 0] [] gm ?_;exact ai [some 0] hQ
         · have rn:=jB (B:=B) (p:=q) (w:=61) hI hB zd zo zo
           rw[show((61:Nat):Int)=61 from rfl] at rn;rw[yl] at hr;rw[if_neg h61] at hr;rw[hr] at hQ;unfold KT HH at hQ;dsimp only[Option.map] at hQ;refine ae ?_;refine zW [some 0] [] rn ?_;exact ai [some 0] hQ
       · obtain rfl:i=C:=by omega
         rw[Nat.sub_self,List.take_of_length_le zo] at hr;rw[hr,Hx] at hQ;unfold KT HH at hQ;dsimp only[Option.map] at hQ;rw[List.append_nil] at hQ;exact zE [some 0,some 1] hQ
 · rw[if_neg he] at hQ
   unfold KT HH at hQ;dsimp only at hQ;exact zE [some 0] hQ
def Ft {α:Type} (g:α) (L:List Bool) (d:Bool) (o:Option (α×Nat)):α×Int×Nat×Bool:=match o with | some (a,q)=>(a,0,q,d) | none=>(g,8,L.length,true)
theorem I4 {A k:Nat}:(A%2^k=0↔(((A:Int):Rat)/(((2^k:Nat):Int):Rat)).num.natAbs%(((A:Int):Rat)/(((2^k:Nat):Int):Rat)).den=0)∧(A%2^k=0→(((A:Int):Rat)/(((2^k:Nat):Int):Rat)).num.natAbs/(((A:Int):Rat)/(((2^k:Nat):Int):Rat)).den=A/2^k):=by
 have hB:2^k≠0:=Nat.ne_of_gt (akN zd);have h:=uv (L:=[]) (A:=A) (B:=2^k) (p:=0) hB;have hpos:0<(((A:Int):Rat)/(((2^k:Nat):Int):Rat)).den:=amZ (Rat.den_nz _);rw[yv (akF _)] at h;have he:=zp (L:=[]) (n:=A) (k:=k);rw[show([]:List Bool).length=0 from rfl] at he;rw[he] at h;generalize (((A:Int):Rat)/(((2^k:Nat):Int):Rat)).num.natAbs=n at*
 generalize (((A:Int):Rat)/(((2^k:Nat):Int):Rat)).den=d at*
 have hlt:=akD n hpos;unfold oO fB at h;rw[if_neg zo] at h
 by_cases h1:A%2^k=0
 · rw[if_pos h1] at h
   by_cases h2:n%d=0
   · rw[if_pos h2] at h
     simp only[if_true,if_false,alv,Prod.mk.injEq] at h;refine⟨⟨fun _=>h2,fun _=>h1⟩,fun _=>?_⟩;exact Int.ofNat.inj h.1
   · rw[if_neg h2,if_neg zo] at h
     simp[oM] at h
 · rw[if_neg h1] at h
   by_cases h2:n%d=0
   · rw[if_pos h2] at h
     simp at h
   · exact⟨⟨fun e=>absurd e h1,fun e=>absurd e h2⟩,fun e=>absurd e h1⟩
theorem DK {n K:Nat} (hn:n≤1099511627776) (hK:K≤1099511627776):RS 100000 (((n:Int):Rat)/((K:Int):Rat)):=
 (R5 (k:=1) (l:=1) zd (J7 zo zo) (J7 zo zo)).mono zd
theorem xI {L:List Bool} {n k p:Nat} (hL:L.length≤1048576) (hn:n≤1099511627776) (hk:k≤40):aA Tryz.prog 134 [.ref 0 0 0 0,RV (((n:Int):Rat)/(((2^k:Nat):Int):Rat))] [some (bm L p true)]
 (.tup [.I (if n%2^k=0 then((n/2^k:Nat):Int) else 0),.I (if n%2^k=0 then 0 else 8)]) [some (bm L p true)]:=by
 have hB:2^k≠0:=Nat.ne_of_gt (akN zd);have hB2:2^k≤1099511627776:=akE (ako zd hk) zd;obtain ⟨b1,b2⟩:=pF hB hn;obtain ⟨f1,f2⟩:=I4 (A:=n) (k:=k);have hs:=DK hn hB2;generalize ((n:Int):Rat)/(((2^k:Nat):Int):Rat)=x at*
 have hx:=lz (Rat.not_lt.1 b1);have hrs:=C1 hs;have hre:=wa hx;have hpos:0<x.den:=amZ (Rat.den_nz _);have hlt:=akD x.num.natAbs hpos
 have hz:(x-((x.floor:Int):Rat)).num.natAbs=0↔x.num.natAbs%x.den=0:=by
  rw[hre,fa x.den_nz,kP];constructor
  · intro h
    have hd:=amN (x.num.natAbs%x.den) x.den;have e:=Nat.div_mul_cancel hd;simp only[ak9] at h;rw[h,alF] at e;exact e.symm
  · intro h
    simp[h]
 have hy1:(x-((x.floor:Int):Rat)).num.natAbs<(x-((x.floor:Int):Rat)).den:=by
  rw[hre,fa x.den_nz,iC x.den_nz,kP,ak9];have hg:0<Nat.gcd (x.num.natAbs%x.den) x.den:=Nat.gcd_pos_of_pos_right _ hpos;have e1:=Nat.div_mul_cancel (amN (x.num.natAbs%x.den) x.den);have e2:=Nat.div_mul_cancel (Nat.gcd_dvd_right (x.num.natAbs%x.den) x.den);generalize Nat.gcd (x.num.natAbs%x.den) x.den=g at*
  refine Nat.lt_of_mul_lt_mul_right (a:=g) ?_;rw[e1,e2];exact hlt
 have hr:=vA (L:=L) (P:=(x-((x.floor:Int):Rat)).num.natAbs) (D:=(x-((x.floor:Int):Rat)).den) (p:=p) hL zo zo (akE hrs.1 zd) (akE hrs.2 zd);have h:=rP (L:=L) (p:=p) (p':=p) hs b1 b2 hr
 by_cases h1:n%2^k=0
 · rw[if_pos h1,if_pos h1]
   have h2:=f1.1 h1;rw[if_pos (hz.2 h2),if_pos rfl,f2 h1] at h;exact h
 · rw[if_neg h1,if_neg h1]
   have h2:=fun e=>h1 (f1.2 e);rw[if_neg (fun e=>h2 (hz.1 e)),if_neg zd] at h;exact h
def gL (L:List Bool) (d:Bool) (n k p:Nat):Nat×Int×Nat×Bool:=Ft 0 L d ((fq n k).run L p)
theorem AY {L:List Bool} {n k p:Nat} {d:Bool} (hL:L.length≤1048576) (hp:p≤L.length) (hd:d=true→p=L.length) (hn:n≤1099511627776) (hk:k≤40):aA Tryz.prog 134 [.ref 0 0 0 0,RV (((n:Int):Rat)/(((2^k:Nat):Int):Rat))] [some (bm L p d)]
 (.tup [.I ((gL L d n k p).1:Int),.I (gL L d n k p).2.1]) [some (bm L (gL L d n k p).2.2.1 (gL L d n k p).2.2.2)]:=by
 unfold gL
 cases d with
 | true=>
   obtain rfl:=hd rfl;have h:=xI (L:=L) (n:=n) (k:=k) (p:=L.length) hL hn hk;rw[zp]
   by_cases h1:n%2^k=0
   · rw[if_pos h1] at h ⊢
     rw[if_pos h1] at h;exact h
   · rw[if_neg h1] at h ⊢
     rw[if_neg h1] at h;exact h
 | false=>
   have hB:2^k≠0:=Nat.ne_of_gt (akN zd);have hB2:2^k≤1099511627776:=akE (ako zd hk) zd;obtain ⟨b1,b2⟩:=pF hB hn;have hs:=DK hn hB2;have h:=FO (L:=L) (p:=p) hL hp hs b1 b2;rw[uv hB,yv hp] at h
   cases hr:(fq n k).run L p with
   | none=>
     rw[hr] at h;exact h
   | some x=>
     rw[hr] at h;exact h
theorem pz {L:List Bool} {n k p:Nat} {d:Bool} (hL:L.length≤1048576) (hp:p≤L.length) (hd:d=true→p=L.length) (hn:n≤1099511627776) (hk:k≤40):aA Tryz.prog 73 [.ref 0 0 0 0,NV n,.I k] [some (bm L p d)]
 (.tup [.I ((gL L d n k p).1:Int),.I (gL L d n k p).2.1]) [some (bm L (gL L d n k p).2.2.1 (gL L d n k p).2.2.2)]:=by
 have hB:2^k≠0:=Nat.ne_of_gt (akN zd);have hB2:2^k≤1099511627776:=akE (ako zd hk) zd;have o:=eI (x:=1) zd;have s:=vU (v:=1) (N:=k) zo (akE (di zd) zd);rw[alG] at s;rw[show((1:Nat):Int)=1 from rfl] at o;have r:=AY hL hp hd hn hk;generalize 2^k=K at*
 have w1:=cL (b:=false) (n:=n) (akE (di zo) zd);have w2:=cL (b:=false) (n:=K) (akE (di zo) zd);have f:=IW (p:=(n:Int)) (q:=(K:Int)) zo (akE (di zo) zd) (akE (di zo) zd);rw[show sg false n=(n:Int) from rfl] at w1;rw[show sg false K=(K:Int) from rfl] at w2;generalize gL L d n k p=x at*
 generalize ((n:Int):Rat)/((K:Int):Rat)=y at*
 refine zF aaT Tryz.call73 Tryz.func73 [.tmp 6,.tmp 7] fun Q hQ=>?_;refine ae ?_;refine zW [] [2] o ?_;refine zC s ?_;refine zC w1 ?_;refine zC w2 ?_;refine zC f ?_;refine zW [some 0] [] r ?_;exact ai [some 0] hQ
end Go.Proofs.YtcnlmelpnflhnaaGreat
