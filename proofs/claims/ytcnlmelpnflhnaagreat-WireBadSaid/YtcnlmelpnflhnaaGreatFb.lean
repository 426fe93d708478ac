import Derived.Test.YtcnlmelpnflhnaaGreatRa
import Derived.Test.YtcnlmelpnflhnaaGreatE7
import Derived.Test.YtcnlmelpnflhnaaGreatE6
import Derived.Test.YtcnlmelpnflhnaaGreatFa
import Derived.Test.YtcnlmelpnflhnaaGreatNi
import Derived.Test.YtcnlmelpnflhnaaGreatE8
namespace Go.Proofs.YtcnlmelpnflhnaaGreat
open Go.Eng Go.Vx
set_option linter.unusedSimpArgs false
set_option linter.unusedVariables false
set_option maxRecDepth 100000
theorem vi {B:List Int} (hB:B.length≤140737488355327):aA Tryz.prog 100 [.row 1 (B.map (ie .u8))] [] (.row 1 (B.map (ie .u8))) []:=by
 refine zF pl Tryz.call100 Tryz.func100 [.tmp 2] fun Q hQ=>?_
 by_cases h:B=[]
 · subst h
   refine Ya ?_;refine jC ?_ ?_
   · refine ae ?_
     exact ai [] hQ
   · refine ae ?_
     exact ai [] hQ
 · have he:(B.map (ie .u8)).isEmpty=false:=by simp[h]
   refine bg he ?_;exact ai [] hQ
def bU (B:List Int) (p:Nat):Ob:=.cells [.row 1 (B.map (ie .u8)),.I p]
attribute [go_sem] bU
theorem gQ.get {B:List Int} (h:gQ B) (i:Nat):0≤B.getD i 0∧B.getD i 0≤255:=by
 rw[akf]
 cases hx:B[i]? with
 | none=>simp
 | some x=>exact h x (ak5 hx)
theorem db {B:List Int} (hB:B.length≤1099511627776):aA Tryz.prog 47 [.row 1 (B.map (ie .u8))] [] (.ref 0 0 0 0) [some (bU B 0)]:=by
 refine zF pl Tryz.call47 Tryz.func47 [.tmp 2] fun Q hQ=>?_;refine ae ?_;refine zC (vi zo) ?_;exact ai [some 0] hQ
theorem nX {B:List Int} {p:Nat} (hB:B.length≤1099511627776) (hp:p≤8*B.length):aA Tryz.prog 102 [.ref 0 0 0 0] [some (bU B p)] (.I ((8*B.length-p:Nat):Int)) [some (bU B p)]:=by
 refine zF DW Tryz.call102 Tryz.func102 [.tmp 2] fun Q hQ=>?_;refine ae ?_;rw[show((8:Int)*(B.length:Int)-(p:Int))=((8*B.length-p:Nat):Int) by omega];exact ai [some 0] hQ
theorem DL {B:List Int} {p:Nat} (hI:gQ B) (hB:B.length≤1099511627776) (hp:p<8*B.length):aA Tryz.prog 103 [.ref 0 0 0 0] [some (bU B p)] (.lit (.int .u64 ((((bitsOf B).getD p false).toNat:Nat):Int))) [some (bU B (p+1))]:=by
 refine zF O6 Tryz.call103 Tryz.func103 [.tmp 2] fun Q hQ=>?_;have hx:=hI.get (p/8);have e0:((p:Int)/8).toNat=p/8:=by omega
 have e1:(7-(p:Int)%8).toNat=7-p%8:=by omega
 have hq:0≤B.getD (p/8) 0/2^(7-p%8)%2∧B.getD (p/8) 0/2^(7-p%8)%2≤1:=by
  have:=Int.emod_nonneg (B.getD (p/8) 0/2^(7-p%8)) (show(2:Int)≠0 by decide)
  have:=Int.emod_lt_of_pos (B.getD (p/8) 0/2^(7-p%8)) (show(0:Int)<2 by decide)
  omega
 have hb:=XO _ (yS B p) rfl;rw[rU B p hp] at hQ;rw[←hb] at hQ;refine eo e0 e1 ?_;exact ai [some 0] hQ
theorem aP {B:List Int} {p w:Nat} (hI:gQ B) (hB:B.length≤1099511627776) (hw:w≤64) (hp:p+w≤8*B.length):aA Tryz.prog 48 [.ref 0 0 0 0,.I w] [some (bU B p)] (.tup [.lit (.int .u64 (numOf (((bitsOf B).drop p).take w):Int)),.I 0]) [some (bU B (p+w))]:=by
 refine zF pl Tryz.call48 Tryz.func48 [.tmp 4,.tmp 5] fun Q hQ=>?_;refine ae ?_;refine aC (nY) rfl rfl ?_;rw[aks (show(0:Int)≤(w:Int)∧(w:Int)≤64 by omega)];refine zq6 ?_;refine zW [some 0] [] (nX (p:=p) hB zo) ?_
 refine aW (X:=Nat) (st:=fun i=>([(0,.ref 0 0 0 0),(6,.lit (.int .u64 (numOf (((bitsOf B).drop p).take i):Int))),(16,.I w),(17,.I i)],[some (bU B (p+i))]))
  (inv:=fun i=>i≤w) (m:=fun i=>w-i) 0 [some 0] rfl (by simp(maxSteps:=1000000) (disch:=(first | omega | (simp only[cS,aki,akj,true_and,and_true];(try omega);done) | fail)) only[go_sem,Int.reduceEq,Int.reduceToNat,Nat.reduceAdd,Nat.reduceMul,Nat.reduceEqDiff, ↓reduceIte];simp) (by simp(maxSteps:=1000000) (disch:=(first | omega | (simp only[cS,aki,akj,true_and,and_true];(try omega);done) | fail)) only[go_sem,Int.reduceEq,Int.reduceToNat,Nat.reduceAdd,Nat.reduceMul,Nat.reduceEqDiff, ↓reduceIte];simp[numOf]) (akF _) ?_
 intro i hi;have hbl:=aG B
 by_cases hil:i<w
 · refine ae ?_
   refine zW [some 0] [] (DL (p:=p+i) hI hB zo) ?_;refine aI (i+1) [some 0] rfl ?_ ?_ zo zo
   · (simp(disch:=(first | omega | (simp only[cS,aki,akj,true_and,and_true];(try omega);done) | fail)) only[go_sem,Int.reduceEq,Int.reduceToNat,Nat.reduceAdd,Nat.reduceMul,Nat.reduceEqDiff, ↓reduceIte,true_and,and_true,and_self,akv,akw,akk,V.lit.injEq,Value.int.injEq,Value.bool.injEq];try (first | omega | (simp;done) | (simp;omega)))
   · dsimp only
     have hlt:=dw (((bitsOf B).drop p).take i)
     have hlt2:numOf (((bitsOf B).drop p).take i)<9223372036854775808:=akT hlt (by
      have:((((bitsOf B).drop p).take i)).length≤63:=by simp;omega
      exact ako (n:=2) zd this)
     refine zq7 ?_;rw[jt zo,qL,Dn _ _ hlt2]
     simp
 · refine ae ?_
   obtain rfl:i=w:=by omega
   exact ai [some 0] hQ
theorem re {L:List Bool} {D:Nat}:∀f r p,p≤L.length→oM L D f r p=(false,8,L.length,true)∨∃b q,oM L D f r p=(b,0,q,false)∧p<q∧q≤L.length
 | 0,_,_,_=>.inl rfl
 | f+1,r,p,hp=>by
   rw[jh]
   by_cases h:p<L.length
   · rw[if_pos h]
     by_cases hc:L.getD p false=decide (D≤r+r)∧(if D≤r+r then r+r-D else r+r)≠0
     · rw[if_pos hc]
       rcases re f (if D≤r+r then r+r-D else r+r) (p+1) h with e | ⟨b,q,e,h1,h2⟩
       · exact .inl e
       · exact .inr ⟨b,q,e,by omega,h2⟩
     · rw[if_neg hc]
       exact .inr ⟨_,_,rfl,by omega,h⟩
   · rw[if_neg h]
     exact .inl rfl
def WE (P D:Nat):Prop:=¬(D=0∨D<P)
theorem ru {L:List Bool} {P D p:Nat} (hg:WE P D) (hp:p≤L.length):fB L P D p=(false,8,L.length,true)∨∃b q,fB L P D p=(b,0,q,false)∧p≤q∧q≤L.length:=by
 unfold fB;rw[if_neg hg]
 split
 · exact .inr ⟨_,_,rfl,akk _,hp⟩
 · split
   · exact .inr ⟨_,_,rfl,akk _,hp⟩
   · rcases re (L:=L) (D:=D) (L.length+1-p) P p hp with e | ⟨b,q,e,h1,h2⟩
     · exact .inl e
     · exact .inr ⟨b,q,e,by omega,h2⟩
def yH (L:List Bool) (P D:Nat):Nat→Nat→Bool×Int×Nat×Bool
 | 0,p=>(true,0,p,false)
 | k+1,p=>if (fB L P D p).1 then yH L P D k (fB L P D p).2.2.1 else fB L P D p
theorem FD (L:List Bool) (P D p:Nat):yH L P D 0 p=(true,0,p,false):=rfl
theorem uj (L:List Bool) (P D k p:Nat):yH L P D (k+1) p=if (fB L P D p).1 then yH L P D k (fB L P D p).2.2.1 else fB L P D p:=rfl
def Fi (L:List Bool) (P D K p:Nat):Bool×Int×Nat×Bool:=if D=0∨D<P then(false,2,p,false) else yH L P D K p
theorem Ip {L:List Bool} {P D p K:Nat} {k:Int} (hL:L.length≤1048576) (hp:p≤L.length) (hP:(wg P).length≤500000) (hD1:(wg D).length≤500000) (hk:max 0 k=(K:Int)) (hK:K<9223372036854775807):aA Tryz.prog 238 [.ref 0 0 0 0,NV P,NV D,.I k] [some (bm L p false)]
 (.tup [.lit (.bool (Fi L P D K p).1),.I (Fi L P D K p).2.1]) [some (bm L (Fi L P D K p).2.2.1 (Fi L P D K p).2.2.2)]:=by
 refine zF pl Tryz.call238 Tryz.func238 [.tmp 8,.tmp 9] fun Q hQ=>?_;unfold Fi at hQ;refine ae ?_;refine aC (ql (P:=P) (D:=D) zo zo) rfl rfl ?_
 by_cases h1:D=0∨D<P
 · rw[akg (fun h=>h h1)]
   rw[if_pos h1] at hQ;exact zE [some 0] hQ
 · rw[aks h1]
   rw[if_neg h1] at hQ
   simp(maxSteps:=1000000) (disch:=(first | omega | (simp only[cS,aki,akj,true_and,and_true];(try omega);done) | fail)) only[go_sem,hk,Int.reduceEq,Int.reduceToNat,Nat.reduceAdd,Nat.reduceMul,Nat.reduceEqDiff, ↓reduceIte]
   refine aU (X:=Nat×Nat) (st:=fun z=>([(0,.ref 0 0 0 0),(5,.ref 1 0 0 0),(6,.ref 2 0 0 0),(17,.I K),(18,.I z.1)],[some (bm L z.2 false),some (.cells [.row 1 ((nl (wg P)).map (ie .u64))]),some (.cells [.row 1 ((nl (wg D)).map (ie .u64))])]))
    (inv:=fun z=>z.1≤K∧z.2≤L.length∧yH L P D K p=yH L P D (K-z.1) z.2) (m:=fun z=>K-z.1) (0,p) [some 0,some 1,some 2] ⟨by simp,hp,rfl⟩ ?_
   rintro ⟨i,q⟩ ⟨hi,hq,hv⟩;simp only at hi hq hv ⊢
   by_cases hiK:i<K
   · obtain ⟨n,hn⟩:∃n,K-i=n+1:=⟨K-i-1,by omega⟩
     rw[hn,uj] at hv;have hr:=xQ (L:=L) (P:=P) (D:=D) (p:=q) hL hq hP hD1;rcases ru (L:=L) (p:=q) h1 hq with e | ⟨b,q2,e,hq1,hq2⟩
     · rw[e] at hr hv
       rw[hv] at hQ;refine ae ?_;refine zW [some 0] [] hr ?_;exact ai [some 0] hQ
     · rw[e] at hr hv
       dsimp only at hr hv
       cases b with
       | false=>
         rw[if_neg (by simp)] at hv;rw[hv] at hQ;refine ae ?_;refine zW [some 0] [] hr ?_;exact ai [some 0] hQ
       | true=>
         rw[if_pos rfl] at hv;refine ae ?_;refine zW [some 0] [] hr ?_;refine aR (i+1,q2) [some 0,some 1,some 2] ⟨by simp only;omega,hq2,?_⟩ (by simp only;omega);simp only;rw[hv,show K-(i+1)=n by omega]
   · obtain rfl:i=K:=by omega
     rw[alw,FD] at hv;rw[hv] at hQ;exact zE [some 0] hQ
def XX (p:Nat) (r:Bool×Int×Nat×Bool):V:=.agg [.lit (.bool r.1),.I ((r.2.2.1:Int)-(p:Int)),.I r.2.1]
attribute [go_sem] XX
def okR (L:List Bool) (p:Nat) (r:Bool×Int×Nat×Bool):Prop:=r=(false,8,L.length,true)∨∃b e q,r=(b,e,q,false)∧e≠8∧p≤q∧q≤L.length
open Go.Eng
theorem gn {L:List Bool} (p w:Nat):L.drop p=(L.drop p).take w++L.drop (p+w):=by
 rw[←List.drop_drop,alT]
theorem CZ:∀l:List Bool,l.take (zl l)=List.replicate (zl l) false
 | []=>rfl
 | true::l=>rfl
 | false::l=>by
   show(false::l).take (zl l+1)=List.replicate (zl l+1) false
   rw[List.take_succ_cons,CZ l,alE]
theorem ga {L:List Bool} {p w:Nat} (h:p+w≤L.length):numBits (numOf ((L.drop p).take w)) w=(L.drop p).take w:=by
 have hl:((L.drop p).take w).length=w:=by simp;omega
 have:=jb ((L.drop p).take w)
 rw[hl] at this;exact this
theorem Si {L:List Bool} {p:Nat} (h:(gX L p).2.2=0):L.drop p=ay (gX L p).1++L.drop (gX L p).2.1∧(gX L p).2.1≤L.length∧p≤(gX L p).2.1:=by
 obtain ⟨k,hz⟩:∃k,zr L p=k:=⟨_,rfl⟩
 by_cases h64:64≤k
 · rw[(CG (by rw[hz];exact h64)).1] at h;cases h
 by_cases he:L.length<p+2*k+1
 · rw[(Bc hz zo he).1] at h;cases h
 rw[(Jj hz zo zo).1];dsimp only
 have ht:L.getD (p+k) false=true:=by
  rw[←ni,←hz];exact wh _ (by have:=hz;unfold zr at this;rw[this];simp;omega)
 have hn:=Em (L:=L) (q:=p+k) (k:=k) zo ht;have h2:numOf ((L.drop (p+k+1)).take k)<2^k:=akT (dw _) (ako zd (by simp;omega));have hb:bl (2^k+numOf ((L.drop (p+k+1)).take k))=k+1:=Pj zo (by rw[akM];omega);have h3:=ga (L:=L) (p:=p+k) (w:=k+1) zo;rw[hn] at h3;refine⟨?_,by omega,by omega⟩;unfold ay;have hzt:List.replicate k false=(L.drop p).take k:=by rw[←hz];exact(CZ _).symm
 rw[hb,alJ,h3,fH,hzt,akl,show p+2*k+1=p+k+(k+1) by omega,←gn,←gn]
theorem DR {L:List Bool}:∀(j i p a:Nat),(sX L j i p a).2.2=0→∃n,(sX L j i p a).1=a+n*2^(7*i)∧L.drop p=cR n++L.drop (sX L j i p a).2.1∧(sX L j i p a).2.1≤L.length∧p≤(sX L j i p a).2.1∧(0<i→n≠0)
 | 0,i,p,a,h=>by cases h
 | j+1,i,p,a,h=>by
   by_cases h8:p+8≤L.length
   · obtain ⟨x,hx⟩:∃x,numOf ((L.drop p).take 8)=x:=⟨_,rfl⟩
     have hb:=ga (L:=L) (p:=p) (w:=8) h8;have hlt:x<256:=by rw[←hx];exact akT (dw _) (show 2^((L.drop p).take 8).length≤2^8 from ako zd (by rw[akr];omega))
     rw[hx] at hb;rw[rf h8 hx] at h ⊢
     by_cases c1:(i=9∧1<x%128)∨(0<i∧x=0)
     · rw[if_pos c1] at h;cases h
     rw[if_neg c1] at h ⊢
     by_cases c2:x<128
     · rw[if_pos c2]
       refine⟨x,by dsimp only;rw[Nat.mod_eq_of_lt c2],?_,h8,by dsimp only;omega,fun hi h0=>c1 (.inr ⟨hi,h0⟩)⟩;rw[vJ c2,hb,←gn]
     · rw[if_neg c2] at h ⊢
       obtain ⟨n,k1,k2,k3,k4,k5⟩:=DR j (i+1) (p+8) (a+x%128*2^(7*i)) h;have hn:=k5 (al8 i);refine⟨x%128+128*n,?_,?_,k3,by omega,fun _=>by omega⟩
       · rw[k1,px,akA,alN]
         congr 2
         rw[←akS,akC n 128]
       · rw[we zo,show(x%128+128*n)/128=n by omega,show 128+(x%128+128*n)%128=x by omega,hb,akl,←k2,←gn]
   · rw[DB h8] at h;cases h
theorem Rt {L:List Bool} {p:Nat} (h:(vX L p).2.2=0):L.drop p=cR (vX L p).1++L.drop (vX L p).2.1∧(vX L p).2.1≤L.length∧p≤(vX L p).2.1:=by
 obtain ⟨n,h1,h2,h3,h4,-⟩:=DR 10 0 p 0 h
 have e:(vX L p).1=n:=by
  show(sX L 10 0 p 0).1=n
  rw[h1];simp
 rw[e];exact⟨h2,h3,h4⟩
inductive DT (α:Type) where
 | ret (a:α)
 | ask (f g:DT α)
variable {α β:Type}
def DT.bind:DT α→(α→DT β)→DT β
 | .ret a,k=>k a
 | .ask f g,k=>.ask (f.bind k) (g.bind k)
def DT.run (L:List Bool):DT α→Nat→Option (α×Nat)
 | .ret a,p=>some (a,p)
 | .ask f g,p=>if p<L.length then(if L.getD p false then g.run L (p+1) else f.run L (p+1)) else none
def DT.mean (v:α→Rat):DT α→Rat
 | .ret a=>v a
 | .ask f g=>(f.mean v+g.mean v)/2
def DT.all (P:α→Prop):DT α→Prop
 | .ret a=>P a
 | .ask f g=>f.all P∧g.all P
theorem lU {L:List Bool} {f g:DT α} {p:Nat}:(DT.ask f g).run L p=if p<L.length then(if L.getD p false then g.run L (p+1) else f.run L (p+1)) else none:=rfl
theorem run_bind {L:List Bool} {k:α→DT β}:∀{t:DT α} {p:Nat},(t.bind k).run L p=match t.run L p with | some (a,q)=>(k a).run L q | none=>none
 | .ret a,p=>rfl
 | .ask f g,p=>by
   rw[show(DT.ask f g).bind k=.ask (f.bind k) (g.bind k) from rfl,lU,lU]
   by_cases h:p<L.length
   · rw[if_pos h,if_pos h]
     cases L.getD p false
     · exact run_bind
     · exact run_bind
   · rw[if_neg h,if_neg h]
theorem cf {v:β→Rat} {k:α→DT β}:∀{t:DT α},(t.bind k).mean v=t.mean (fun a=>(k a).mean v)
 | .ret a=>rfl
 | .ask f g=>by
   unfold DT.bind DT.mean;rw[cf,cf]
theorem all_bind {P:β→Prop} {k:α→DT β}:∀{t:DT α},(t.bind k).all P↔t.all (fun a=>(k a).all P)
 | .ret a=>Iff.rfl
 | .ask f g=>by
   unfold DT.bind DT.all;rw[all_bind,all_bind]
theorem cD {v w:α→Rat}:∀{t:DT α},t.all (fun a=>v a=w a)→t.mean v=t.mean w
 | .ret a,h=>h
 | .ask f g,h=>by
   unfold DT.mean;rw[cD h.1,cD h.2]
theorem bO {P Q:α→Prop} (h:∀a,P a→Q a):∀{t:DT α},t.all P→t.all Q
 | .ret a,x=>h a x
 | .ask f g,x=>⟨bO h x.1,bO h x.2⟩
theorem vM {P Q:α→Prop}:∀{t:DT α},t.all P→t.all Q→t.all (fun a=>P a∧Q a)
 | .ret a,x,y=>⟨x,y⟩
 | .ask f g,x,y=>⟨vM x.1 y.1,vM x.2 y.2⟩
theorem all_true {P:α→Prop} (h:∀a,P a):∀{t:DT α},t.all P
 | .ret a=>h a
 | .ask f g=>⟨all_true h,all_true h⟩
theorem i5 {P:α→Prop} {L:List Bool} {a:α} {q:Nat}:∀{t:DT α} {p:Nat},t.all P→t.run L p=some (a,q)→P a
 | .ret b,p,h,e=>by
   unfold DT.run at e
   cases e
   exact h
 | .ask f g,p,h,e=>by
   unfold DT.run at e
   split at e
   · split at e
     · exact i5 h.2 e
     · exact i5 h.1 e
   · cases e
theorem sJ {L:List Bool} {a:α} {q:Nat}:∀{t:DT α} {p:Nat},p≤L.length→t.run L p=some (a,q)→p≤q∧q≤L.length
 | .ret b,p,h,e=>by
   unfold DT.run at e
   cases e
   exact⟨akk _,h⟩
 | .ask f g,p,h,e=>by
   unfold DT.run at e
   split at e
   · split at e
     · have:=sJ (p:=p+1) zo e;omega
     · have:=sJ (p:=p+1) zo e;omega
   · cases e
theorem tv {v w:α→Rat}:∀{t:DT α},t.mean (fun a=>v a+w a)=t.mean v+t.mean w
 | .ret a=>rfl
 | .ask f g=>by
   unfold DT.mean;rw[tv,tv]
   grind
theorem qR {v:α→Rat} {c:Rat}:∀{t:DT α},t.mean (fun a=>v a*c)=t.mean v*c
 | .ret a=>rfl
 | .ask f g=>by
   unfold DT.mean;rw[qR,qR]
   grind
theorem ej {c:Rat}:∀{t:DT α},t.mean (fun _=>c)=c
 | .ret a=>rfl
 | .ask f g=>by
   unfold DT.mean;rw[ej,ej]
   grind
def rv (D:Nat):Nat→Nat→DT Bool
 | 0,_=>.ret false
 | f+1,r=>if D≤r+r then .ask (.ret true) (if r+r-D=0 then .ret false else rv D f (r+r-D)) else .ask (if r+r=0 then .ret false else rv D f (r+r)) (.ret false)
def bit (b:Bool):Nat:=if b then 1 else 0
def vb (b:Bool):Rat:=((bit b:Nat):Int)
theorem Cw {k f r:Nat} (h:f+1≤k) (hd:2^(k-(f+1))∣r):2^(k-f)∣r+r:=by
 obtain ⟨c,rfl⟩:=hd;refine⟨c,?_⟩;rw[show k-f=k-(f+1)+1 by omega,akM];generalize 2^(k-(f+1))=x;rw[akS,akC 2 c,←akS];omega
theorem Eh {k:Nat}:∀{f r:Nat},f≤k→r<2^k→2^(k-f)∣r→(rv (2^k) f r).mean vb*(((2^k:Nat):Int):Rat)=(((r:Nat):Int):Rat):=by
 intro f
 induction f with
 | zero=>
   intro r _ h1 h2
   have:r=0:=Nat.eq_zero_of_dvd_of_lt h2 (by simpa using h1)
   subst this;unfold rv DT.mean vb bit;rw[show(((if false=true then 1 else 0:Nat):Int):Rat)=0 from rfl,Rat.zero_mul]
   rfl
 | succ f ih=>
   intro r hk h1 h2;have h3:=Cw hk h2;unfold rv;generalize hD:2^k=D at*
   have hv1:vb true=1:=rfl;have hv0:vb false=0:=rfl;have hdk:2^(k-f)∣D:=by rw[←hD];exact Nat.pow_dvd_pow 2 zo
   split
   · rename_i hge
     have h4:2^(k-f)∣r+r-D:=Nat.dvd_sub h3 hdk
     have e:(((r+r-D:Nat):Int):Rat)=(((r:Nat):Int):Rat)+(((r:Nat):Int):Rat)-(((D:Nat):Int):Rat):=by
      rw[←Rat.intCast_add,←Rat.intCast_sub]
      congr 1
      omega
     unfold DT.mean
     split
     · rename_i hz
       rw[hz] at e;rw[show(((0:Nat):Int):Rat)=0 from rfl] at e;unfold DT.mean;rw[hv1,hv0]
       grind
     · have i:=ih (r:=r+r-D) zo zo h4
       rw[e] at i;rw[show DT.mean vb (DT.ret true)=1 from rfl]
       grind
   · rename_i hge
     have e:(((r+r:Nat):Int):Rat)=(((r:Nat):Int):Rat)+(((r:Nat):Int):Rat):=by
      rw[←Rat.intCast_add]
      congr 1
     unfold DT.mean
     split
     · rename_i hz
       rw[hz] at e;rw[show(((0:Nat):Int):Rat)=0 from rfl] at e;unfold DT.mean;rw[hv0]
       grind
     · have i:=ih (r:=r+r) zo zo h3
       rw[e] at i;rw[show DT.mean vb (DT.ret false)=0 from rfl]
       grind
def fq (n k:Nat):DT Nat:=if n%2^k=0 then .ret (n/2^k) else(rv (2^k) k (n%2^k)).bind fun b=>.ret (n/2^k+bit b)
def vn (n:Nat):Rat:=((n:Nat):Int)
theorem oQ (a b:Nat):vn (a*b)=vn a*vn b:=by unfold vn;simp
theorem wY (a b:Nat):vn (a+b)=vn a+vn b:=by unfold vn;simp
theorem uF (n k:Nat):(fq n k).mean vn*vn (2^k)=vn n:=by
 unfold fq;have hd:=akO n (2^k)
 split
 · rename_i h
   rw[h] at hd;rw[show(DT.ret (n/2^k)).mean vn=vn (n/2^k) from rfl,←oQ,akC];rw[alv] at hd;rw[hd]
 · rw[cf]
   have h1:∀b,((DT.ret (n/2^k+bit b)).mean vn)=vn (n/2^k)+vb b:=fun b=>wY _ _;have h2:=Eh (k:=k) (f:=k) (r:=n%2^k) (akk k) (akD _ (akN zd)) (by rw[alw];exact Nat.one_dvd _);rw[cD (w:=fun b=>vn (n/2^k)+vb b) (all_true h1),tv,ej];have h3:vn n=vn (2^k)*vn (n/2^k)+vn (n%2^k):=by rw[←oQ,←wY,hd]
   unfold vn at*
   grind
end Go.Proofs.YtcnlmelpnflhnaaGreat

namespace Go.Proofs.YtcnlmelpnflhnaaGreat
open Go.Eng
set_option linter.unusedVariables false
structure SP where
 m:Nat
 d:Nat
 s:Nat
abbrev Cell:=Nat×Nat
abbrev SS:=List Cell×Nat×Bool
def iN (c:Cell) (s:Nat):Nat:=c.1*2^(s*c.2)
def gS (c:Cell):Cell:=if c.1=0 then(c.1,0) else c
def Hc (c:Cell) (s:Nat):DT Cell:=(fq c.1 s).bind fun n=>.ret (n,c.2+1)
def bu (P:SP) (v s:Nat):Nat→Nat→Nat
 | 0,m=>m
 | f+1,m=>if m<P.d∧P.m<v/2^(s*m) then bu P v s f (m+1) else m
def GQ (P:SP) (v s:Nat):DT Cell:=(fq v (s*bu P v s P.d 0)).bind fun n=>.ret (n,bu P v s P.d 0)
def MG (P:SP) (was:Nat) (c:Cell):DT Cell:=(GQ P (iN c was) (was+1)).bind fun c1=>if P.m<c1.1 then Hc c1 (was+1) else .ret c1
def jl (P:SP) (was:Nat) (i:Int):List Cell→Nat→Cell→DT (List Cell×Cell)
 | [],_,own=>.ret ([],own)
 | c::cs,k,own=>if (k:Int)=i then(GQ P (iN own was) (was+1)).bind fun o=>(jl P was i cs (k+1) o).bind fun r=>.ret (c::r.1,r.2)
    else(MG P was c).bind fun c1=>(jl P was i cs (k+1) own).bind fun r=>.ret (gS c1::r.1,r.2)
def gK (P:SP) (i:Nat):Nat→SS→Cell→DT SS
 | 0,st,c=>.ret (st.1,st.2.1,true)
 | f+1,st,c=>if c.1≤P.m then .ret (st.1.set i (gS c),st.2) else
    if c.2<P.d then(Hc c st.2.1).bind fun c1=>gK P i f st c1 else
    if st.2.1<P.s then(jl P st.2.1 i st.1 0 c).bind fun r=>gK P i f (r.1,st.2.1+1,st.2.2) r.2 else
    .ret (st.1.set i (gS (P.m,c.2)),st.2.1,true)
def q9 (P:SP) (s m:Nat):Nat:=(P.s-s)*(P.d+2)+(P.d-m)+2
def tN (P:SP) (st:SS) (i n:Nat):DT SS:=
 (fq n (st.2.1*(st.1.getD i (0,0)).2)).bind fun by'=>gK P i (q9 P st.2.1 (st.1.getD i (0,0)).2) st ((st.1.getD i (0,0)).1+by',(st.1.getD i (0,0)).2)
def pJ (c:Cell) (s:Nat):Rat:=vn (iN c s)
theorem NU (c:Cell) (s:Nat):pJ (gS c) s=pJ c s:=by
 unfold pJ gS iN
 split
 · rename_i h;rw[h,alF,alF]
 · rfl
theorem yQ {α:Type} {v:α→Rat} {t:DT α} {c:Rat} {w:α→Rat} (h:∀a,v a=w a*c):t.mean v=t.mean w*c:=by
 rw[cD (w:=fun a=>w a*c) (all_true h),qR]
theorem Mr (c:Cell) (s:Nat):(Hc c s).mean (fun x=>pJ x s)=pJ c s:=by
 unfold Hc;rw[cf];have h:∀n,(DT.ret ((n,c.2+1):Cell)).mean (fun x=>pJ x s)=vn n*vn (2^(s*(c.2+1))):=fun n=>oQ _ _;rw[yQ h]
 have:=uF c.1 s
 rw[Nat.mul_succ,ale,oQ];unfold pJ iN;rw[oQ];generalize (fq c.1 s).mean vn=a at*
 grind
theorem CE (P:SP) (v s:Nat):(GQ P v s).mean (fun x=>pJ x s)=vn v:=by
 unfold GQ;rw[cf];generalize bu P v s P.d 0=m;have h:∀n,(DT.ret ((n,m):Cell)).mean (fun x=>pJ x s)=vn n*vn (2^(s*m)):=fun n=>oQ _ _;rw[yQ h];exact uF v (s*m)
theorem OH (P:SP) (was:Nat) (c:Cell):(MG P was c).mean (fun x=>pJ x (was+1))=pJ c was:=by
 unfold MG;rw[cf]
 have h:∀c1:Cell,(if P.m<c1.1 then Hc c1 (was+1) else .ret c1).mean (fun x=>pJ x (was+1))=pJ c1 (was+1):=fun c1=>by
  split
  · exact Mr _ _
  · rfl
 rw[cD (all_true h)];exact CE _ _ _
def wl (l:List Cell) (s j:Nat):Rat:=pJ (l.getD j (0,0)) s
theorem vT (P:SP) (was:Nat) (i:Int):∀(cs:List Cell) (k:Nat) (own:Cell),
 (∀j,((k+j:Nat):Int)≠i→(jl P was i cs k own).mean (fun r=>wl r.1 (was+1) j)=wl cs was j)∧
 ((∃j,j<cs.length∧((k+j:Nat):Int)=i)→(jl P was i cs k own).mean (fun r=>pJ r.2 (was+1))=pJ own was)∧
 ((∀j,j<cs.length→((k+j:Nat):Int)≠i)→(jl P was i cs k own).all (fun r=>r.2=own))∧
 (jl P was i cs k own).all (fun r=>r.1.length=cs.length):=by
 intro cs
 induction cs with
 | nil=>
   intro k own;refine⟨fun j _=>?_,fun⟨j,hj,_⟩=>absurd hj (by simp),fun _=>rfl,rfl⟩;unfold jl DT.mean wl pJ iN
   simp
 | cons c cs ih=>
   intro k own;unfold jl
   by_cases hk:(k:Int)=i
   · rw[if_pos hk]
     have hne:∀j,j<cs.length→((k+1+j:Nat):Int)≠i:=fun j _=>by omega
     have hown:∀o,(jl P was i cs (k+1) o).all (fun r=>r.2=o):=fun o=>(ih (k+1) o).2.2.1 hne;refine⟨fun j hj=>?_,fun _=>?_,fun h=>absurd hk (h 0 (by simp)),?_⟩
     · cases j with
       | zero=>exact absurd hk (by simpa using hj)
       | succ j=>
         rw[cf]
         have h:∀o,((jl P was i cs (k+1) o).bind fun r=>DT.ret ((c::r.1,r.2):List Cell×Cell)).mean (fun r=>wl r.1 (was+1) (j+1))=wl cs was j:=fun o=>by
          rw[cf];exact(ih (k+1) o).1 j zo
         rw[cD (all_true h),ej]
         rfl
     · rw[cf]
       have h:∀o,((jl P was i cs (k+1) o).bind fun r=>DT.ret ((c::r.1,r.2):List Cell×Cell)).mean (fun r=>pJ r.2 (was+1))=pJ o (was+1):=fun o=>by
        rw[cf]
        have h2:(jl P was i cs (k+1) o).all (fun r=>(DT.ret ((c::r.1,r.2):List Cell×Cell)).mean (fun r=>pJ r.2 (was+1))=pJ o (was+1)):=bO (fun r e=>by
         show pJ r.2 (was+1)=_;rw[e]) (hown o)
        rw[cD h2,ej]
       rw[cD (all_true h)];exact CE _ _ _
     · rw[all_bind]
       refine all_true fun o=>?_;rw[all_bind];refine bO (fun r e=>?_) (ih (k+1) o).2.2.2
       show(c::r.1).length=_
       simp[e]
   · rw[if_neg hk]
     refine⟨fun j hj=>?_,fun⟨j,hj,e⟩=>?_,fun h=>?_,?_⟩
     · cases j with
       | zero=>
         rw[cf]
         have h:∀c1,((jl P was i cs (k+1) own).bind fun r=>DT.ret ((gS c1::r.1,r.2):List Cell×Cell)).mean (fun r=>wl r.1 (was+1) 0)=pJ c1 (was+1):=fun c1=>by
          rw[cf];have h2:∀r:List Cell×Cell,(DT.ret ((gS c1::r.1,r.2):List Cell×Cell)).mean (fun r=>wl r.1 (was+1) 0)=pJ c1 (was+1):=fun r=>NU _ _;rw[cD (all_true h2),ej]
         rw[cD (all_true h)];exact OH _ _ _
       | succ j=>
         rw[cf]
         have h:∀c1,((jl P was i cs (k+1) own).bind fun r=>DT.ret ((gS c1::r.1,r.2):List Cell×Cell)).mean (fun r=>wl r.1 (was+1) (j+1))=wl cs was j:=fun c1=>by
          rw[cf];exact(ih (k+1) own).1 j zo
         rw[cD (all_true h),ej]
         rfl
     · cases j with
       | zero=>exact absurd (by simpa using e) hk
       | succ j=>
         rw[cf]
         have h:∀c1,((jl P was i cs (k+1) own).bind fun r=>DT.ret ((gS c1::r.1,r.2):List Cell×Cell)).mean (fun r=>pJ r.2 (was+1))=pJ own was:=fun c1=>by
          rw[cf];exact(ih (k+1) own).2.1 ⟨j,by simpa using hj,by omega⟩
         rw[cD (all_true h),ej]
     · rw[all_bind]
       refine all_true fun c1=>?_;rw[all_bind];refine bO (fun r e=>e) ((ih (k+1) own).2.2.1 fun j hj=>?_)
       have:=h (j+1) (by simpa using hj)
       omega
     · rw[all_bind]
       refine all_true fun o=>?_;rw[all_bind];refine bO (fun r e=>?_) (ih (k+1) own).2.2.2
       show(gS o::r.1).length=_
       simp[e]
def nf (r:SS):Prop:=r.2.2=false
theorem Cz (P:SP) (i:Nat):∀(f:Nat) (st:SS) (c:Cell),(gK P i f st c).all (fun r=>r.1.length=st.1.length∧(st.2.2=true→r.2.2=true)):=by
 intro f
 induction f with
 | zero=>intro st c;exact⟨rfl,fun _=>rfl⟩
 | succ f ih=>
   intro st c;unfold gK
   split
   · exact⟨akJ,fun h=>h⟩
   · split
     · rw[all_bind];exact all_true fun c1=>ih st c1
     · split
       · rw[all_bind]
         refine bO (fun r hr=>bO (fun q hq=>⟨hq.1.trans hr,hq.2⟩) (ih (r.1,st.2.1+1,st.2.2) r.2)) (vT P st.2.1 i st.1 0 c).2.2.2
       · exact⟨akJ,fun _=>rfl⟩
theorem Nr (P:SP) (st:SS) (i n:Nat):(tN P st i n).all (fun r=>r.1.length=st.1.length∧(st.2.2=true→r.2.2=true)):=by
 unfold tN;rw[all_bind];exact all_true fun a=>Cz P i _ st _
def lvD (P:SP):Nat→SS→DT SS
 | 0,st=>.ret st
 | k+1,st=>(jl P st.2.1 (-1) st.1 0 (0,0)).bind fun r=>lvD P k (r.1,st.2.1+1,st.2.2)
def ahx (x y:SS) (i:Nat):DT Cell:=
 (fq (iN (x.1.getD i (0,0)) x.2.1) (x.2.1*max (x.1.getD i (0,0)).2 (y.1.getD i (0,0)).2)).bind fun n=>
 (fq (iN (y.1.getD i (0,0)) x.2.1) (x.2.1*max (x.1.getD i (0,0)).2 (y.1.getD i (0,0)).2)).bind fun m=>.ret (n+m,max (x.1.getD i (0,0)).2 (y.1.getD i (0,0)).2)
def mgD (P:SP):Nat→Nat→SS→SS→DT SS
 | 0,_,x,y=>.ret (x.1,x.2.1,x.2.2 || y.2.2)
 | k+1,i,x,y=>(lvD P (x.2.1-y.2.1) y).bind fun y1=>(ahx x y1 i).bind fun c=>(gK P i (q9 P x.2.1 c.2) x c).bind fun x1=>mgD P k (i+1) x1 y1
def Se (P:SP) (x y:SS):DT SS:=(lvD P (y.2.1-x.2.1) x).bind fun x1=>mgD P x.1.length 0 x1 y
set_option linter.unusedSimpArgs false
variable {α:Type}
def DT.sub:DT α→List Bool→DT α
 | t,[]=>t
 | .ret a,_::_=>.ret a
 | .ask f g,b::bs=>(if b then g else f).sub bs
def wkS (val:α→Nat):DT α→Nat→Nat
 | .ret a,f=>val a*2^f
 | .ask _ _,0=>0
 | .ask g h,f+1=>wkS val g f+wkS val h f
def wkO:DT α→Nat→Bool
 | .ret _,_=>false
 | .ask _ _,0=>true
 | .ask g h,f+1=>wkO g f || wkO h f
def wkA (q:α→Bool):DT α→Nat→Bool
 | .ret a,_=>q a
 | .ask _ _,0=>false
 | .ask g h,f+1=>wkA q g f || wkA q h f
def aje (P:SP) (x y z:Nat):DT SS:=
 (tN P ([(0,0),(0,0)],1,false) 0 x).bind fun a=>(tN P a 1 y).bind fun b=>(tN P b 0 z).bind fun c=>Se P c c
end Go.Proofs.YtcnlmelpnflhnaaGreat
