import Derived.Test.YtcnlmelpnflhnaaGreatE8
import Derived.Test.YtcnlmelpnflhnaaGreatAa
import Derived.Test.YtcnlmelpnflhnaaGreatFw
import Derived.Test.YtcnlmelpnflhnaaGreatIc
import Derived.Test.YtcnlmelpnflhnaaGreatHa
import Derived.Test.YtcnlmelpnflhnaaGreatFb
import Derived.Test.YtcnlmelpnflhnaaGreatSc
import Derived.Test.YtcnlmelpnflhnaaGreatBf
namespace Go.Proofs.YtcnlmelpnflhnaaGreat
open Go.Eng Go.Vx
set_option linter.unusedSimpArgs false
set_option linter.unusedVariables false
set_option maxRecDepth 100000
def rF (K P C:Int):Prop:=(K=1∧1≤P∧P≤8∨K=2∧P=0)∧1≤C∧C≤16
theorem E9 {K P C:Int} (h:rF K P C):aA Tryz.prog 85 [.agg [.lit (.int .i64 K),.lit (.int .i64 P),.lit (.int .i64 C)]] [] (.lit (.int .i64 0)) []:=by
 obtain ⟨h,h1,h2⟩:=h;refine zF pl Tryz.call85 Tryz.func85 [.tmp 2] fun Q hQ=>?_;rcases h with⟨rfl,h3,h4⟩ | ⟨rfl,rfl⟩
 · refine ae ?_
   exact ak [] hQ
 · refine ae ?_
   exact ak [] hQ
def gN (K:Int) (P N:Nat):Nat:=if K=2 then N*lgN (max 1 N) else N^P
def sV (x:Nat×Nat):List PV:=[.lit (.int .u64 (x.1:Int)),.lit (.int .i64 (x.2:Int))]
def mr (K P C:Int) (X:List (Nat×Nat)) (N:Nat):Ob:=.cells [.lit (.int .i64 K),.lit (.int .i64 P),.lit (.int .i64 C),.row 2 (X.map sV),.lit (.int .i64 (N:Int))]
def KC (K P C:Int) (X:List (Nat×Nat)) (N:Nat):V:=.rref 5 [[.lit (.int .i64 K),.lit (.int .i64 P),.lit (.int .i64 C),.row 2 (X.map sV),.lit (.int .i64 (N:Int))]] 0 0
attribute [go_sem] mr KC
@[go_sem] theorem WH {x:Nat×Nat}:sV x=[.lit (.int .u64 (x.1:Int)),.lit (.int .i64 (x.2:Int))]:=(rfl)
@[go_sem] theorem afB {X:List (Nat×Nat)} {z:Nat}:Mf (.row z (X.map sV))=True:=eq_true fun e he p hp=>by
 obtain ⟨x,_,rfl⟩:=akh.1 he;rw[WH] at hp;simp only[ajC,aj5,or_false] at hp;rcases hp with rfl | rfl<;>rfl
def dG (K:Int) (P R:Nat):Rat:=(((gN K P R:Nat):Int):Rat)-(((gN K P (R-1):Nat):Int):Rat)
def dGe (K:Int) (P R:Nat):Rat:=if K=2 then dG K P R/((268435456:Int):Rat) else dG K P R
theorem qe:∀{X:List (Nat×Nat)},(∀x∈X,1≤x.2∧x.2≤1048576)→(j7 X).length≤X.length*102
 | [],_=>ajp _
 | x::X,h=>by
   obtain ⟨h1,h2⟩:=h x (by simp);have ih:=qe (X:=X) fun y hy=>h y (by simp[hy]);have hg:=mR (n:=x.2) zo;have hb:=bP (n:=x.2) (k:=21) zo;rw[lg,ajj,ajj,aj,ajr];omega
theorem mL {n:Nat} (h:n≤1048576):(cZ n).length≤24:=by
 have hb:=bP (n:=n) (k:=21) zo;rw[qT];omega
theorem GS {X:List (Nat×Nat)} {i:Nat} {x:Nat×Nat} (h:X[i]? =some x):j7 (X.take (i+1))=j7 (X.take i)++numBits x.1 61++ai x.2:=by
 rw[ak7,h,LJ];simp[j7]
theorem re {K P:Int} {C:Nat} (h:rF K P C):aA Tryz.prog 34 [.agg [.lit (.int .i64 K),.lit (.int .i64 P),.lit (.int .i64 (C:Int))]] [] (.tup [.ref 0 0 0 0,.lit (.int .i64 0)])
 [some (.cells [.lit (.int .i64 K),.lit (.int .i64 P),.lit (.int .i64 (C:Int)),.sl 1 2 0 C,.lit (.int .i64 0)]),some (.row 2 ((List.replicate C ((0:Nat),(0:Nat))).map sV))]:=by
 have hc:=E9 h;obtain ⟨h,h1,h2⟩:=h;have e:(List.replicate C ((0:Nat),(0:Nat))).map sV=dQ [.int .u64 0,.int .i64 0] C:=by rw[List.map_replicate];rfl
 have el:(dQ [Value.int IntKind.u64 0,Value.int IntKind.i64 0] C).length=C:=by unfold dQ;rw[ajF]
 have et:List.take C (dQ [Value.int IntKind.u64 0,Value.int IntKind.i64 0] C)=dQ [Value.int IntKind.u64 0,Value.int IntKind.i64 0] C:=ajy (Nat.le_of_eq el);refine zF Zk Tryz.call34 Tryz.func34 [.tmp 2,.tmp 3] fun Q hQ=>?_;rw[e] at hQ;refine ae ?_;refine zC hc ?_;generalize dQ [Value.int IntKind.u64 0,Value.int IntKind.i64 0] C=zr at*
 exact ak [some 2,some 1] hQ
def MV (r:Option (List (Nat×Nat)×Nat)×Nat×Int):V:=match r.1 with
 | some _=>.tup [.ref 1 0 0 0,.lit (.int .i64 0)]
 | none=>.tup [.lit (.pointer none),.lit (.int .i64 r.2.2)]
def Lc (K P C:Int) (B:List Int) (r:Option (List (Nat×Nat)×Nat)×Nat×Int):St:=match r.1 with
 | some x=> [some (dk B r.2.1),some (mr K P C x.1 x.2)]
 | none=> [some (dk B r.2.1)]
set_option maxHeartbeats 4000000 in
theorem Iu {K P:Int} {C p:Nat} {B:List Int} (h:rF K P C) (hI:ke B) (hB:B.length≤1099511627776) (hp:p≤8*B.length):
 aA Tryz.prog 110 [.ref 0 0 0 0,.agg [.lit (.int .i64 K),.lit (.int .i64 P),.lit (.int .i64 (C:Int))]] [some (dk B p)] (MV (U4 (bitsOf B) C p)) (Lc K P C B (U4 (bitsOf B) C p)):=by
 have hn:=re h;have hbl:=ba B;have hC16:C≤16:=by have:=h.2;omega
 have vv:=IJ hI hB hp;have hvq:(vX (bitsOf B) p).2.1≤(bitsOf B).length:=AK _ _ _ _ zo;have hz:(List.replicate C ((0:Nat),(0:Nat))).length=C:=ajF;refine zF pl Tryz.call110 Tryz.func110 [.tmp 4,.tmp 5] fun Q hQ=>?_;unfold U4 at hQ;generalize hz0:List.replicate C ((0:Nat),(0:Nat))=z0 at*
 generalize vX (bitsOf B) p=v at*
 obtain ⟨T,q0,ev⟩:=v;dsimp only at vv hvq hQ;refine ae ?_;refine zW [] [] hn ?_;refine aF [some 0] [] (vv) ?_
 by_cases he:ev=0
 · subst he
   rw[if_pos rfl] at hQ
   by_cases hT:1048576<T
   · rw[if_pos hT] at hQ
     unfold MV Lc at hQ;dsimp only at hQ;exact zE [some 0] hQ
   · rw[if_neg hT] at hQ
     by_cases hT0:T=0
     · rw[if_pos hT0] at hQ
       unfold MV Lc at hQ;dsimp only at hQ;exact zE [some 0,some 2] hQ
     · rw[if_neg hT0] at hQ
       refine ae ?_
       refine aR (X:=Nat×List (Nat×Nat)×Nat) (st:=fun y=>([(0,.ref 0 0 0 0),(6,.ref 1 0 0 0),(8,.lit (.int .u64 (T:Int))),(46,.lit (.int .i64 (C:Int))),(47,.lit (.int .i64 (y.1:Int)))],
        [some (dk B y.2.2),some (.cells [.lit (.int .i64 K),.lit (.int .i64 P),.lit (.int .i64 (C:Int)),.sl 2 2 0 C,.lit (.int .i64 (T:Int))]),some (.row 2 (y.2.1.map sV))]))
        (inv:=fun y=>y.1≤C∧y.2.1.length=C∧y.2.2≤(bitsOf B).length∧Ca (bitsOf B) T C q0=((Ca (bitsOf B) T (C-y.1) y.2.2).1.map (y.2.1.take y.1++ ·),(Ca (bitsOf B) T (C-y.1) y.2.2).2)) (m:=fun y=>C-y.1)
        (0,z0,q0) [some 0,some 2,some 3] ⟨ajH _,hz,hvq,by simp⟩ ?_
       rintro ⟨i,Y,q⟩ ⟨hi,hY,hq,hr⟩;dsimp only at hi hY hq hr ⊢
       by_cases hil:i<C
       · obtain ⟨c,hc⟩:∃c,C-i=c+1:=⟨C-i-1,by omega⟩
         rw[hc] at hr
         by_cases h61:q+61≤(bitsOf B).length
         · have rn:=bN (B:=B) (p:=q) (w:=61) hI hB zd zo
           rw[show((61:Nat):Int)=61 from rfl] at rn;have gm:=wW (p:=q+61) hI hB zo;have hgq:=OU h61;have hgl:=NB (L:=bitsOf B) (p:=q+61);have hkl:numOf (((bitsOf B).drop q).take 61)<2305843009213693952:=bd _ 61;rw[xQ] at hr;rw[if_pos h61] at hr;generalize gX (bitsOf B) (q+61)=g at*
           obtain ⟨n,q2,e2⟩:=g;dsimp only at gm hgq hgl hr;generalize numOf (((bitsOf B).drop q).take 61)=key at*
           by_cases he2:e2=0
           · subst he2
             rw[if_pos rfl] at hr
             by_cases hk1:2305843009213693951≤key
             · rw[if_pos (.inl hk1)] at hr
               rw[hr] at hQ;unfold MV Lc at hQ;dsimp only[Option.map] at hQ;refine ae ?_;refine zW [some 0] [] rn ?_;refine zW [some 0] [] gm ?_;exact ak [some 0] hQ
             · by_cases hk2:T<n
               · rw[if_pos (.inr hk2)] at hr
                 rw[hr] at hQ;unfold MV Lc at hQ;dsimp only[Option.map] at hQ;refine ae ?_;refine zW [some 0] [] rn ?_;refine zW [some 0] [] gm ?_;exact ak [some 0] hQ
               · rw[if_neg zo] at hr
                 have hset:(Y.map sV).set i [.lit (.int .u64 (key:Int)),.lit (.int .i64 (n:Int))]=(Y.set i (key,n)).map sV:=by rw[alC];rfl
                 have ht:(Y.set i (key,n)).take (i+1)=Y.take i++[(key,n)]:=by
                  rw[ajN (by rw[ajR];omega),alu (ajp i)]
                  simp
                 refine ae ?_;refine zW [some 0] [] rn ?_;refine aF [some 0] [] (gm) ?_;refine br hset ?_;refine aM (i+1,Y.set i (key,n),q2) [some 0,some 1,some 2] ⟨hil,by rw[List.length_set];exact hY,hgq,?_⟩ (by dsimp only;omega);dsimp only;rw[hr,show C-(i+1)=c by omega,ht,Option.map_map]
                 congr 2
                 funext l
                 simp
           · rw[if_neg he2] at hr
             rw[hr] at hQ;unfold MV Lc at hQ;dsimp only[Option.map] at hQ;refine ae ?_;refine zW [some 0] [] rn ?_;refine zW [some 0] [] gm ?_;exact ak [some 0] hQ
         · have rn:=nN (B:=B) (p:=q) (w:=61) hI hB zd zo zo
           rw[show((61:Nat):Int)=61 from rfl] at rn;rw[xQ] at hr;rw[if_neg h61] at hr;rw[hr] at hQ;unfold MV Lc at hQ;dsimp only[Option.map] at hQ;refine ae ?_;refine zW [some 0] [] rn ?_;exact ak [some 0] hQ
       · obtain rfl:i=C:=by omega
         rw[Nat.sub_self,List.take_of_length_le zo] at hr;rw[hr,GI] at hQ;unfold MV Lc at hQ;dsimp only[Option.map] at hQ;rw[List.append_nil] at hQ;exact zE [some 0,some 1] hQ
 · rw[if_neg he] at hQ
   unfold MV Lc at hQ;dsimp only at hQ;exact zE [some 0] hQ
def bg (k a b:Nat) (l:List SR):Nat:=aV (wd k a b) (l.map (fj k a b))
def jV (k a b C:Nat) (l:List SR):PV:=.ptr 4 [[.ptr 3 [[.row 1 ((words (aZ C (wd k a b)) (bg k a b l)).map (ie .u64)),.lit (.int .i64 (C:Int)),.lit (.int .i64 (wd k a b:Int))]] 0 0,.lit (.int .i64 (k:Int)),.lit (.int .i64 (a:Int)),.lit (.int .i64 (b:Int))]] 0 0
def crF (k a b n:Nat) (r:Option (List SR)×Nat×Int):V:=match r.1 with
 | some l=>.tup [kA k a b n (wd k a b) (bg k a b l),.lit (.int .i64 0)]
 | none=>.tup [.lit (.pointer none),.lit (.int .i64 r.2.2)]
theorem Ek {k a b n p:Nat} {B:List Int} (h:aL k a b) (hn:1≤n∧n≤256) (hI:ke B) (hB:B.length≤1099511627776) (hp:p≤8*B.length):
 aA Tryz.prog 106 [.ref 0 0 0 0,pR k a b,.lit (.int .i64 (n:Int))] [some (dk B p)] (crF k a b n (oL (bitsOf B) k a b n p)) [some (dk B (oL (bitsOf B) k a b n p).2.1)]:=by
 have cr:=x8 h hn hI hB hp;generalize oL (bitsOf B) k a b n p=v at*
 obtain ⟨o,q,e⟩:=v
 cases o with
 | none=>exact cr
 | some l=>
   unfold crV crS at cr;dsimp only at cr;change aA _ _ _ _ (.tup [kA k a b n (wd k a b) (bg k a b l),.lit (.int .i64 0)]) [some (dk B q)];have hlw:=aq (aZ n (wd k a b)) (bg k a b l);change aA _ _ _ _ _ [some (dk B q),some (cP 2 k a b),some (cC 3 n (wd k a b)),some (ch n (wd k a b) (bg k a b l))] at cr;generalize bg k a b l=x at*
   exact kS [some 0] (cr)
def fW (k a b C:Nat) (r:RW):List PV:=[.lit (.int .u64 (r.1:Int)),.lit (.int .u64 (r.2.1:Int)),jV k a b C r.2.2]
def fy (R C k a b:Nat) (l:List RW) (T:Nat):Ob:=.cells [.lit (.int .i64 (R:Int)),.lit (.int .i64 (C:Int)),.lit (.int .i64 (k:Int)),.lit (.int .i64 (a:Int)),.lit (.int .i64 (b:Int)),.row 3 (l.map (fW k a b C)),.lit (.int .i64 (T:Int))]
def nk (R C k a b:Nat) (l:List RW) (T:Nat):V:=.rref 7 [[.lit (.int .i64 (R:Int)),.lit (.int .i64 (C:Int)),.lit (.int .i64 (k:Int)),.lit (.int .i64 (a:Int)),.lit (.int .i64 (b:Int)),.row 3 (l.map (fW k a b C)),.lit (.int .i64 (T:Int))]] 0 0
attribute [go_sem] fy nk
def NS (r:Option (List RW×Nat)×Nat×Int):V:=match r.1 with
 | some _=>.tup [.ref 1 0 0 0,.lit (.int .i64 0)]
 | none=>.tup [.lit (.pointer none),.lit (.int .i64 r.2.2)]
def OP (R C k a b:Nat) (B:List Int) (r:Option (List RW×Nat)×Nat×Int):St:=match r.1 with
 | some x=> [some (dk B r.2.1),some (fy R C k a b x.1 x.2)]
 | none=> [some (dk B r.2.1)]
set_option maxHeartbeats 4000000 in
theorem D6 {R C k a b p:Nat} {B:List Int} (hR:1≤R∧R≤4) (hC:1≤C∧C≤64) (h:aL k a b) (hI:ke B) (hB:B.length≤1099511627776) (hp:p≤8*B.length):
 aA Tryz.prog 109 [.ref 0 0 0 0,.agg [.lit (.int .i64 (R:Int)),.lit (.int .i64 (C:Int)),.lit (.int .i64 (k:Int)),.lit (.int .i64 (a:Int)),.lit (.int .i64 (b:Int))]] [some (dk B p)] (NS (ZZ (bitsOf B) R C k a b p)) (OP R C k a b B (ZZ (bitsOf B) R C k a b p)):=by
 have ck:=qI (R:=(R:Int)) (C:=(C:Int)) ⟨by omega,by omega,by omega,by omega⟩ h;have hbl:=ba B;have vv:=IJ hI hB hp;have hvq:(vX (bitsOf B) p).2.1≤(bitsOf B).length:=AK _ _ _ _ zo;refine zF O7 Tryz.call109 Tryz.func109 [.tmp 4,.tmp 5] fun Q hQ=>?_;unfold ZZ at hQ;generalize vX (bitsOf B) p=v at*
 obtain ⟨T,q0,ev⟩:=v;dsimp only at vv hvq hQ;refine ae ?_;refine zC ck ?_;refine aF [some 0] [] (vv) ?_
 by_cases he:ev=0
 · subst he
   rw[if_pos rfl] at hQ
   by_cases hT:1099511627776<T
   · rw[if_pos hT] at hQ
     unfold NS OP at hQ;dsimp only at hQ;exact zE [some 0] hQ
   · rw[if_neg hT] at hQ
     refine ae ?_
     refine aR (X:=List RW×Nat) (st:=fun y=>([(0,.ref 0 0 0 0),(3,.ref 1 0 0 0),(9,.ref 2 0 0 0),(38,.lit (.int .i64 (R:Int))),(39,.lit (.int .i64 (y.1.length:Int)))],
      [some (dk B y.2),some (.cells [.lit (.int .i64 (R:Int)),.lit (.int .i64 (C:Int)),.lit (.int .i64 (k:Int)),.lit (.int .i64 (a:Int)),.lit (.int .i64 (b:Int))]),some (.cells [.lit (.int .i64 (R:Int)),.lit (.int .i64 (C:Int)),.lit (.int .i64 (k:Int)),.lit (.int .i64 (a:Int)),.lit (.int .i64 (b:Int)),.sl 3 3 0 y.1.length,.lit (.int .i64 (T:Int))]),some (.row 3 (y.1.map (fW k a b C)))]))
      (inv:=fun y=>y.1.length≤R∧y.2≤(bitsOf B).length∧jl (bitsOf B) k a b C R q0=((jl (bitsOf B) k a b C (R-y.1.length) y.2).1.map (y.1++ ·),(jl (bitsOf B) k a b C (R-y.1.length) y.2).2)) (m:=fun y=>R-y.1.length)
      ([],q0) [some 0,some 1,some 2,none] ⟨ajH _,hvq,by simp⟩ ?_
     rintro ⟨l,q⟩ ⟨hl,hq,hr⟩;dsimp only at hl hq hr ⊢
     by_cases hil:l.length<R
     · obtain ⟨c,hc⟩:∃c,R-l.length=c+1:=⟨R-l.length-1,by omega⟩
       rw[hc,qh] at hr;have hA:=bd ((bitsOf B).drop q) 61;have hB2:=bd ((bitsOf B).drop (q+61)) 61;have rw1:=Mb (k:=k) (a:=a) (b:=b) (C:=C) hq;have rs:=fun r=>EJ (L:=bitsOf B) (k:=k) (a:=a) (b:=b) (C:=C) (p:=q) (r:=r);unfold tz at hr rw1 rs;have r1:=bN (B:=B) (p:=q) (w:=61) hI hB zd;have r2:=bN (B:=B) (p:=q+61) (w:=61) hI hB zd;rw[show((61:Nat):Int)=61 from rfl] at r1 r2;generalize hga:numOf (((bitsOf B).drop q).take 61)=A at*
       generalize hgb:numOf (((bitsOf B).drop (q+61)).take 61)=D at*
       clear hga hgb;refine ae ?_
       refine aR (X:=Nat×Nat×Nat×Nat) (st:=fun x=>([(0,.ref 0 0 0 0),(3,.ref 1 0 0 0),(9,.ref 2 0 0 0),(10,.ref 4 0 0 0),(38,.lit (.int .i64 (R:Int))),(39,.lit (.int .i64 (l.length:Int))),(43,.agg [.ref 4 0 0 0,.ref 4 0 0 1]),(44,.lit (.int .i64 (x.1:Int)))],
        [some (dk B x.2.2.2),some (.cells [.lit (.int .i64 (R:Int)),.lit (.int .i64 (C:Int)),.lit (.int .i64 (k:Int)),.lit (.int .i64 (a:Int)),.lit (.int .i64 (b:Int))]),some (.cells [.lit (.int .i64 (R:Int)),.lit (.int .i64 (C:Int)),.lit (.int .i64 (k:Int)),.lit (.int .i64 (a:Int)),.lit (.int .i64 (b:Int)),.sl 3 3 0 l.length,.lit (.int .i64 (T:Int))]),some (.row 3 (l.map (fW k a b C))),some (.cells [.lit (.int .u64 (x.2.1:Int)),.lit (.int .u64 (x.2.2.1:Int))])]))
        (inv:=fun x=>x=(0,0,0,q)∨(q+61≤(bitsOf B).length∧x=(1,A,0,q+61))∨(q+122≤(bitsOf B).length∧x=(2,A,D,q+122))) (m:=fun x=>2-x.1)
        (0,0,0,q) [some 0,some 1,some 2,some 3,some 4] (.inl rfl) ?_
       rintro x (rfl | ⟨h61,rfl⟩ | ⟨h122,rfl⟩)
       · by_cases h61:q+61≤(bitsOf B).length
         · have r1:=r1 zo
           refine ae ?_;refine zW [some 0] [] r1 ?_;refine aM (1,A,0,q+61) [some 0,some 1,some 2,some 3,some 4] (.inr (.inl ⟨h61,rfl⟩)) (show 2-1<2-0 by decide)
         · have rn:=nN (B:=B) (p:=q) (w:=61) hI hB zd zo zo
           rw[show((61:Nat):Int)=61 from rfl] at rn;rw[if_neg h61] at hr;rw[hr] at hQ;unfold NS OP at hQ;dsimp only[Option.map] at hQ;refine ae ?_;refine zW [some 0] [] rn ?_;exact ak [some 0] hQ
       · by_cases h122:q+122≤(bitsOf B).length
         · have r2:=r2 zo
           refine ae ?_;refine zW [some 0] [] r2 ?_;refine aM (2,A,D,q+122) [some 0,some 1,some 2,some 3,some 4] (.inr (.inr ⟨h122,rfl⟩)) (show 2-2<2-1 by decide)
         · have rn:=nN (B:=B) (p:=q+61) (w:=61) hI hB zd zo zo
           rw[show((61:Nat):Int)=61 from rfl] at rn;rw[if_pos h61,if_neg h122] at hr;rw[hr] at hQ;unfold NS OP at hQ;dsimp only[Option.map] at hQ;refine ae ?_;refine zW [some 0] [] rn ?_;exact ak [some 0] hQ
       · rw[if_pos zo,if_pos h122] at hr rw1 rs
         have hc:=uJ (A:=A) (B:=D)
         by_cases hok:A<2305843009213693951∧D<2305843009213693951
         · rw[if_pos hok] at hr hc rw1 rs
           have cr:=Ek (n:=C) (p:=q+122) h ⟨hC.1,by omega⟩ hI hB zo;have hle:=Bs (L:=bitsOf B) (k:=k) (a:=a) (b:=b) (n:=C) h122;have hno:=xU (L:=bitsOf B) (k:=k) (a:=a) (b:=b) (n:=C) (p:=q+122);generalize oL (bitsOf B) k a b C (q+122)=w at*
           obtain ⟨o,q2,e⟩:=w
           cases o with
           | none=>
             have hno:=hno rfl;unfold crF at cr;dsimp only[Option.map] at cr hr hno;rw[hr] at hQ;unfold NS OP at hQ;dsimp only[Option.map] at hQ;refine ae ?_;refine zC hc ?_;refine zW [some 0] [] cr ?_;exact ak [some 0] hQ
           | some m=>
             have rs:=rs _ rfl;unfold crF at cr;dsimp only[Option.map] at cr hr rs hle;refine ae ?_;refine zC hc ?_;refine zW [some 0] [] cr ?_;refine aH (l++[(A,D,m)],q2) [some 0,some 1,some 2,some 6] rfl ?_ ?_ ⟨by rw[List.length_append];exact hil,hle,?_⟩ (by dsimp only;rw[List.length_append,List.length_singleton];omega)
             · dsimp only
               rw[akX,ajj,akw];simp only[ajK,ajQ,fW,jV]
               (simp(disch:=(first | omega | (simp only[cQ,ajl,ajo,true_and,and_true];(try omega);done) | fail)) only[go_sem,Int.reduceEq,Int.reduceToNat,Nat.reduceAdd,Nat.reduceMul,Nat.reduceEqDiff, ↓reduceIte,true_and,and_true,and_self,ajE,ajz,ajp,V.lit.injEq,Value.int.injEq,Value.bool.injEq];try (first | omega | (simp;done) | (simp;omega)))
             · dsimp only
               rw[ajj,akw]
               (simp(disch:=(first | omega | (simp only[cQ,ajl,ajo,true_and,and_true];(try omega);done) | fail)) only[go_sem,Int.reduceEq,Int.reduceToNat,Nat.reduceAdd,Nat.reduceMul,Nat.reduceEqDiff, ↓reduceIte,true_and,and_true,and_self,ajE,ajz,ajp,V.lit.injEq,Value.int.injEq,Value.bool.injEq];try (first | omega | (simp;done) | (simp;omega)))
             · dsimp only
               rw[hr,ajj,akw,show R-(l.length+1)=c by omega];generalize jl (bitsOf B) k a b C c q2=w;obtain ⟨o,w2⟩:=w
               cases o with
               | none=>rfl
               | some x=>simp
         · rw[if_neg hok] at hr hc
           dsimp only at hr;rw[hr] at hQ;unfold NS OP at hQ;dsimp only[Option.map] at hQ;refine ae ?_;refine zC hc ?_;exact ak [some 0] hQ
     · have hln:l.length=R:=by omega
       rw[hln,Nat.sub_self,AO] at hr;rw[hr] at hQ;unfold NS OP at hQ;dsimp only[Option.map] at hQ;rw[List.append_nil] at hQ;exact zE [some 0,some 2] hQ
 · rw[if_neg he] at hQ
   unfold NS OP at hQ;dsimp only at hQ;exact zE [some 0] hQ
theorem zm {X:List Cell} (hX:X.length≤256) (h:X≠ []):aA Tryz.prog 112 [.row 2 (X.map cV)] [] (.sl 0 2 0 X.length) [some (.row 2 (X.map cV))]:=by
 refine zF pl Tryz.call112 Tryz.func112 [.tmp 2] fun Q hQ=>?_;have he:(X.map cV).isEmpty=false:=by simp[h]
 refine br he ?_;exact ak [some 1] hQ
theorem oR {M D S:Nat} {st:SS} (hX:st.1.length≤256) (h:st.1≠ []):aA Tryz.prog 53 [I6 M D S st] [] (.ref 0 0 0 0) [some (J2 M D S 1 st.1.length st.2.1 st.2.2),some (.row 2 (st.1.map cV))]:=by
 have hc:=zm hX h;refine zF pl Tryz.call53 Tryz.func53 [.tmp 2] fun Q hQ=>?_;refine ae ?_;refine bI (hc) ?_;exact zE [some 0,some 1] hQ
def Ff (M D S:Nat) (L:List Bool) (d:Bool) (st:SS) (i n p:Nat):SS×Int×Nat×Bool:=EH st L d ((td (cR M D S) st i n).run L p)
theorem GQ {P:SP} {L:List Bool} {st:SS} {i n p:Nat}:(td P st i n).run L p=match (fc n (st.2.1*(st.1.getD i (0,0)).2)).run L p with | some (b,q)=>(gy P i (qD P st.2.1 (st.1.getD i (0,0)).2) st ((st.1.getD i (0,0)).1+b,(st.1.getD i (0,0)).2)).run L q | none=>none:=by
 unfold td;rw[run_bind]
 cases (fc n (st.2.1*(st.1.getD i (0,0)).2)).run L p with
 | none=>rfl
 | some x=>rfl
set_option maxHeartbeats 4000000 in
theorem Kw {M D S p i n:Nat} {st:SS} {d:Bool} {L:List Bool} (hw:WB M D S) (hL:L.length≤1048576) (hp:p≤L.length) (hd:d=true→p=L.length) (hX:st.1.length≤256) (hi:i<st.1.length)
 (hs:SOk (cR M D S) st) (hn:n≤1048576):
 aA Tryz.prog 18 [.ref 0 0 0 0,.ref 1 0 0 0,.lit (.int .i64 (i:Int)),.lit (.int .i64 (n:Int))] [some (tJ M D S st),some (bt L p d)]
 (.lit (.int .i64 (Ff M D S L d st i n p).2.1)) [some (tJ M D S (Ff M D S L d st i n p).1),some (bt L (Ff M D S L d st i n p).2.2.1 (Ff M D S L d st i n p).2.2.2)]:=by
 have hpw:=hw.pw;have hd3:=hpw.d3;have hm255:=hpw.m255;have hs4:=hpw.s4;have hne:st.1≠ []:=by intro e;rw[e] at hi;exact absurd hi (by simp)
 have hgi:st.1[i]? =some (st.1.getD i (0,0)):=by rw[ajk,ajm hi];rfl
 have hok:=Cw hs.c i;have g:=K4 (M:=M) (D:=D) (S:=S) hgi hX;have hcl:=oR (M:=M) (D:=D) (S:=S) hX hne;have hfit:=fun(p':Nat) (c:Cell) (h1:p'≤L.length) (h2:d=true→p'=L.length) (h3:c.1≤16777216) (h4:c.2≤(cR M D S).d)=>LB (F:=qD (cR M D S) st.2.1 c.2) hw hL h1 h2 hX hi hs h3 h4 (CM _ _ _);unfold Ff at hcl ⊢;rw[GQ];have hss2:=hs.s2;generalize hP:cR M D S=P at*
 obtain ⟨cs,s,fu⟩:=st;dsimp only at hX hi hgi hok g hcl hfit hss2 ⊢;generalize hc0:cs.getD i (0,0)=c0 at*
 obtain ⟨hk1,hk2,-⟩:=hok;have hsm:=Ha (s:=s) (m:=c0.2) zo zo;have o:=eG (x:=n) zo;have e:(s:Int)*(c0.2:Int)=((s*c0.2:Nat):Int):=by simp
 have r:=pb (L:=L) (n:=n) (k:=s*c0.2) (p:=p) (d:=d) hL hp hd zo zo
 cases h1:(fc n (s*c0.2)).run L p with
 | none=>
   rw[jh h1] at r;dsimp only[EH];generalize s*c0.2=k at*
   refine zF P3 Tryz.call18 Tryz.func18 [.tmp 8] fun Q hQ=>?_;refine ae ?_;refine aW (g) ?_;refine br e ?_;refine aF [] [3] (o) ?_;refine br e ?_;refine zW [some 1] [] r ?_;exact ak [some 0,some 1] hQ
 | some rr=>
   obtain ⟨b,q⟩:=rr;have hnx:=hH hp hd h1;have hnl:=uW h1;have hf:=hfit q (c0.1+b,c0.2) hnx.1 hnx.2 (by dsimp only;omega) hk2;dsimp only at hf ⊢;rw[ja h1] at r;generalize s*c0.2=k at*
   refine zF P3 Tryz.call18 Tryz.func18 [.tmp 8] fun Q hQ=>?_;refine ae ?_;refine aW (g) ?_;refine br e ?_;refine aF [] [3] (o) ?_;refine br e ?_;refine zW [some 1] [] r ?_;refine bI (hcl) ?_;refine ae ?_;refine NZ [some 4,some 1,some 5] [] (hf) ?_;rintro ⟨⟨Y,s',fu'⟩,e',q',d'⟩ hx;unfold Lt at hx
   cases h4:(gy P i (qD P s c0.2) (cs,s,fu) (c0.1+b,c0.2)).run L q with
   | none=>
     rw[h4] at hx hQ;dsimp only[EH] at hx hQ;simp only[Prod.mk.injEq] at hx;obtain ⟨rfl,rfl,rfl⟩:=hx;exact zE [some 0,some 1] hQ
   | some r=>
     obtain ⟨⟨Y1,s1,fu1⟩,q1⟩:=r;have hln:=(iT (BW P i _ (cs,s,fu) (c0.1+b,c0.2)) h4).1;dsimp only at hln;rw[h4] at hx hQ;dsimp only[EH] at hx hQ;simp only[Prod.mk.injEq] at hx;obtain ⟨⟨rfl,rfl,rfl⟩,rfl,rfl,rfl⟩:=hx;exact zE [some 0,some 1] hQ
theorem zI {a b c:Int}:∃M D S:Nat,WB M D S∧M≤4∧S≤3∧aA Tryz.prog 28 [.agg [.lit (.int .i64 a),.lit (.int .i64 b),.lit (.int .i64 c)]] [] (pA M D S) []:=by
 obtain ⟨M,hM⟩:∃m:Nat,1+a%4=(m:Int):=⟨(1+a%4).toNat,by omega⟩;obtain ⟨D,hD⟩:∃m:Nat,1+b%2=(m:Int):=⟨(1+b%2).toNat,by omega⟩;obtain ⟨S,hS⟩:∃m:Nat,1+c%256%3=(m:Int):=⟨(1+c%256%3).toNat,by omega⟩;have m1:cv .and .i64 a 3=a%4:=eu (k:=.i64) (j:=2) (a:=a) zd;have m2:cv .and .i64 b 1=b%2:=eu (k:=.i64) (j:=1) (a:=b) zd;have m3:cv .and .i64 c 255=c%256:=eu (k:=.i64) (j:=8) (a:=c) zd;refine⟨M,D,S,⟨by omega,by omega,by omega,by omega,by omega,by omega⟩,by omega,by omega,?_⟩;refine zF pl Tryz.call28 Tryz.func28 [.cell 2 26] fun Q hQ=>?_;refine vd m1 m2 m3 hM hD hS ?_;exact ak [] hQ
theorem Jh {M D S:Nat}:aA Tryz.prog 27 [pA M D S] [] (pA M D S) []:=by
 refine zF pl Tryz.call27 Tryz.func27 [.cell 2 81] fun Q hQ=>?_;exact zE [] hQ
theorem WB.good {M D S:Nat} (h:WB M D S):tQ M D S:=⟨⟨by have:=h.m1;omega,by have:=h.m8;omega⟩,⟨by have:=h.d1;omega,by have:=h.d2;omega⟩,by have:=h.s1;omega,by have:=h.s4;omega⟩
theorem ok0 {P:SP} (h:PB P) {n:Nat}:SOk P (List.replicate n (0,0),1,false):=⟨fun c hc=>by
 rw[ala hc];exact⟨ajH _,ajH _,fun _=>rfl⟩,ajp _,h.s1,fun h=>by cases h⟩
end Go.Proofs.YtcnlmelpnflhnaaGreat
