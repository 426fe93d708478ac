import Derived.Test.YtcnlmelpnflhnaaGreatBe
import Derived.Test.YtcnlmelpnflhnaaGreatHd
import Derived.Test.YtcnlmelpnflhnaaGreatFb
import Derived.Test.YtcnlmelpnflhnaaGreatAa
namespace Go.Proofs.YtcnlmelpnflhnaaGreat
open Go.Eng Go.Vx
set_option linter.unusedSimpArgs false
set_option linter.unusedVariables false
set_option maxRecDepth 100000
theorem Au {L:List Bool} {Y T p:Nat} {F d:Bool} (hL:L.length≤1048576) (hp:p≤L.length) (hY:Y≤1000) (hT:T≤1000):∃(e:Int) (Y' T' q:Nat) (d':Bool),q≤L.length∧Y'≤Y∧(e=0→T'=T+1)∧
 aA Tryz.prog 177 [.ref 0 0 0 0,sR (Y,T,F),.I 1] [some (bm L p d)] (.tup [sR (Y',T',F),.I e]) [some (bm L q d')]:=by
 obtain ⟨b,e,q,d',h,hb,hq,-⟩:=QD (Y:=Y) d hL hp hY
 by_cases he:e=0
 · subst he
   refine⟨0,b,T+1,q,d',hq,hb,fun _=>rfl,?_⟩;have ht:(((T+1:Nat)):Int)=(T:Int)+1:=by omega
   refine zF pl Tryz.call177 Tryz.func177 [.cell 6 131,.tmp 7] fun Q hQ=>?_;simp only[sR,ht] at hQ;refine ae ?_
   refine aU (X:=Nat×Nat×Nat×Nat×Bool) (st:=fun z=>([(0,.ref 0 0 0 0),(4,.ref 1 0 0 0),(6,.ref 2 0 0 0),(11,.I 1),(12,.I z.1)],[some (bm L z.2.2.2.1 z.2.2.2.2),some (.cells [.I z.2.1,.I z.2.2.1,.lit (.bool F)]),some (.cells [.I 0,.I 0,.lit (.bool false)])]))
    (inv:=fun z=>z=(0,Y,T,p,d)∨z=(1,b,T+1,q,d')) (m:=fun z=>1-z.1) (0,Y,T,p,d) [some 0,some 1,some 2] (.inl rfl) ?_
   rintro z (rfl | rfl)
   · refine ae ?_
     refine zW [some 0] [] h ?_;refine aR (1,b,T+1,q,d') [some 0,some 1,some 2] (.inr rfl) zo
   · refine ae ?_
     skip
     exact ai [some 0] hQ
 · refine⟨e,Y,T,q,d',hq,akk _,fun h=>absurd h he,?_⟩
   refine zF pl Tryz.call177 Tryz.func177 [.cell 6 131,.tmp 7] fun Q hQ=>?_;refine ae ?_
   refine aU (X:=Unit) (st:=fun z=>([(0,.ref 0 0 0 0),(4,.ref 1 0 0 0),(6,.ref 2 0 0 0),(11,.I 1),(12,.I 0)],[some (bm L p d),some (.cells [.I Y,.I T,.lit (.bool F)]),some (.cells [.I 0,.I 0,.lit (.bool false)])]))
    (inv:=fun z=>True) (m:=fun z=>0) () [some 0,some 1,some 2] trivial ?_
   rintro ⟨⟩-;refine ae ?_;refine zW [some 0] [] h ?_;exact ai [some 0] hQ
abbrev TS:=(Nat×Nat×Bool)×Nat×Bool
def okD (L:List Bool) (b:Nat) (x:TS):Prop:=x.1.1≤1000∧x.1.2.1≤b∧(x.1.2.2=true→x.1.2.1=b)∧x.2.1≤L.length
def mi (G:TS→Int×TS) (a b:Nat):Nat→TS→Int×TS
 | 0,x=>(0,x)
 | n+1,x=>if x.1.1≤a then(0,x) else if x.1.2.1=b then(0,(a,b,true),x.2) else if (G x).1≠0 then((G x).1,x.1,(G x).2.2) else mi G a b n (G x).2
theorem s9 {G:TS→Int×TS} {a b n:Nat} {x:TS}:mi G a b (n+1) x=if x.1.1≤a then(0,x) else if x.1.2.1=b then(0,(a,b,true),x.2) else if (G x).1≠0 then((G x).1,x.1,(G x).2.2) else mi G a b n (G x).2:=rfl
theorem xV {L:List Bool} {G:TS→Int×TS} {a b:Nat} (ha:a≤1000) (hG:∀x,okD L b x→x.1.2.1<b→(G x).2.2.1≤L.length∧((G x).1=0→okD L b (G x).2∧(G x).2.1.2.1=x.1.2.1+1)):
 ∀n x,okD L b x→b-x.1.2.1<n→(mi G a b n x).2.2.1≤L.length∧((mi G a b n x).1=0→okD L b (mi G a b n x).2∧(mi G a b n x).2.1.1≤a)
 | 0,x,h,hn=>by omega
 | n+1,x,h,hn=>by
   rw[s9]
   split
   · rename_i h1
     exact⟨h.2.2.2,fun _=>⟨h,h1⟩⟩
   · split
     · exact⟨h.2.2.2,fun _=>⟨⟨ha,akk _,fun _=>rfl,h.2.2.2⟩,akk _⟩⟩
     · rename_i h1 h2
       have h3:x.1.2.1<b:=by have:=h.2.1;omega
       obtain ⟨g1,g2⟩:=hG x h h3
       split
       · rename_i h4
         exact⟨g1,fun h=>absurd h h4⟩
       · rename_i h4
         obtain ⟨g3,g4⟩:=g2 (Classical.not_not.1 h4);exact xV ha hG n _ g3 zo
theorem NS {L:List Bool} {a b:Nat} (hL:L.length≤1048576) (ha:a≤1000) (hb:b≤100) (x:TS) (hx:okD L b x):∃y:Int×TS,y.2.2.1≤L.length∧(y.1=0→okD L b y.2∧y.2.1.1≤a)∧
 aA Tryz.prog 159 [.agg [.I a,.I b],.ref 0 0 0 0,sR x.1] [some (bm L x.2.1 x.2.2)] (.tup [sR y.2.1,.I y.1]) [some (bm L y.2.2.1 y.2.2.2)]:=by
 obtain ⟨G,hG⟩:=Classical.skolem.1 fun x=>show∃y:Int×TS,okD L b x→x.1.2.1<b→y.2.2.1≤L.length∧(y.1=0→okD L b y.2∧y.2.1.2.1=x.1.2.1+1)∧
  aA Tryz.prog 177 [.ref 0 0 0 0,sR x.1,.I 1] [some (bm L x.2.1 x.2.2)] (.tup [sR y.2.1,.I y.1]) [some (bm L y.2.2.1 y.2.2.2)] from by
  obtain ⟨⟨Y,T,F⟩,p,d⟩:=x
  by_cases h:okD L b ((Y,T,F),p,d)∧T<b
  · obtain ⟨⟨h1,h2,h3,h4⟩,h5⟩:=h
    dsimp only at h1 h2 h3 h4 h5;obtain ⟨e,Y',T',q,d',g1,g2,g3,g4⟩:=Au (Y:=Y) (T:=T) (F:=F) (d:=d) hL h4 h1 zo;refine⟨(e,(Y',T',F),q,d'),fun _ _=>⟨g1,fun he=>⟨⟨?_,?_,?_,g1⟩,g3 he⟩,g4⟩⟩
    · dsimp only;omega
    · dsimp only;rw[g3 he];omega
    · intro hF
      have:=h3 hF
      omega
  · exact⟨(0,(Y,T,F),p,d),fun h1 h2=>absurd ⟨h1,h2⟩ h⟩
 obtain ⟨k1,k2⟩:=xV (a:=a) ha (fun x h1 h2=>⟨(hG x h1 h2).1,(hG x h1 h2).2.1⟩) (b-x.1.2.1+1) x hx (Nat.lt_succ_self _);refine⟨mi G a b (b-x.1.2.1+1) x,k1,k2,?_⟩;obtain ⟨⟨Y,T,F⟩,p,d⟩:=x;dsimp only;generalize hN:b-T+1=N;refine zF pl Tryz.call159 Tryz.func159 [.cell 6 131,.tmp 7] fun Q hQ=>?_;refine ae ?_
 refine aU (X:=Nat×TS) (st:=fun z=>([(3,.ref 1 0 0 0),(1,.ref 0 0 0 0),(5,.ref 2 0 0 0),(6,.ref 3 0 0 0)],[some (bm L z.2.2.1 z.2.2.2),some (.cells [.I a,.I b]),some (.cells [.I z.2.1.1,.I z.2.1.2.1,.lit (.bool z.2.1.2.2)]),some (.cells [.I 0,.I 0,.lit (.bool false)])]))
  (inv:=fun z=>okD L b z.2∧b-z.2.1.2.1<z.1∧mi G a b N ((Y,T,F),p,d)=mi G a b z.1 z.2) (m:=fun z=>z.1) (N,(Y,T,F),p,d) [some 0,some 1,some 2,some 3] ⟨hx,by dsimp only;omega,rfl⟩ ?_
 rintro ⟨n,⟨Y1,T1,F1⟩,p1,d1⟩ ⟨hz,hn,hv⟩;dsimp only at hz hn hv ⊢;obtain ⟨r,rfl⟩:∃r,n=r+1:=⟨n-1,by omega⟩;rw[s9 (n:=r)] at hv;have g:=hG ((Y1,T1,F1),p1,d1) hz;obtain ⟨z1,z2,z3,z4⟩:=hz;dsimp only at z1 z2 z3 z4 hv g
 by_cases h1:Y1≤a
 · rw[if_pos h1] at hv
   rw[hv] at hQ;exact zE [some 0] hQ
 · rw[if_neg h1] at hv
   by_cases h2:T1=b
   · rw[if_pos h2] at hv
     rw[hv] at hQ;subst h2;exact zE [some 0] hQ
   · rw[if_neg h2] at hv
     generalize G ((Y1,T1,F1),p1,d1)=gx at g hv;obtain ⟨E,⟨Y2,T2,F2⟩,p2,d2⟩:=gx;obtain ⟨g1,g2,g3⟩:=g zo;dsimp only at g1 g2 g3 hv
     by_cases hE:E=0
     · subst hE
       rw[if_neg (by simp)] at hv;obtain ⟨g4,g5⟩:=g2 rfl;refine ae ?_;refine zW [some 0] [] g3 ?_;refine aR (r,(Y2,T2,F2),p2,d2) [some 0,some 1,some 2,some 3] ⟨g4,by dsimp only;omega,hv⟩ zo
     · rw[if_pos hE] at hv
       rw[hv] at hQ;refine ae ?_;refine zW [some 0] [] g3 ?_;exact ai [some 0] hQ
abbrev SR:=Nat×Nat×Bool
def iL (k a b:Nat) (s:SR):Nat:=numOf (dr k a b s)
def GL (k a b n:Nat) (l:List SR):List Nat:=l.map (iL k a b)++List.replicate (n-l.length) 0
theorem kT (k a b:Nat) (s:SR):iL k a b s<2^wd k a b:=by
 have:=dw (dr k a b s)
 rw[ey] at this;exact this
theorem L1 (k a b:Nat) {n:Nat} {l:List SR} (h:l.length≤n):(GL k a b n l).length=n:=by
 unfold GL;rw[ake,aki,akB];omega
theorem SJ (k a b n:Nat) (l:List SR):∀x∈GL k a b n l,x<2^wd k a b:=by
 intro x hx;unfold GL at hx;rcases alK.1 hx with hx | hx
 · obtain ⟨s,_,rfl⟩:=alb.1 hx
   exact kT k a b s
 · rw[(amq.1 hx).2]
   exact akN zd
theorem Ng (k a b:Nat) {n:Nat} {l:List SR} {s:SR} (h:l.length<n):(GL k a b n l).set l.length (iL k a b s)=GL k a b n (l++[s]):=by
 unfold GL;rw[List.set_append,if_neg (by simp),aki,alw];obtain ⟨q,hq⟩:∃q,n-l.length=q+1:=⟨n-l.length-1,by omega⟩;rw[hq,alE,amt,ake,alj,show n-(l.length+1)=q by omega]
 simp
theorem Ll (k a b:Nat) {n:Nat} {l:List SR} (h:l.length=n):GL k a b n l=l.map (iL k a b):=by
 unfold GL;rw[h,alw,List.replicate_zero,ak7]
def nE (L:List Bool) (k a b:Nat):Nat→Nat→Option (List SR)×Nat×Int
 | 0,p=>(some [],p,0)
 | n+1,p=>match uS L k a b p with
   | (some s,q,_)=>((nE L k a b n q).1.map (s:: ·),(nE L k a b n q).2)
   | (none,q,e)=>(none,q,e)
theorem Cj {L:List Bool} {k a b p:Nat} (h:p≤L.length):(uS L k a b p).2.1≤L.length:=by
 unfold uS
 split
 · split<;>assumption
 · exact h
theorem qx {L:List Bool} {k a b p:Nat}:((uS L k a b p).1=none→(uS L k a b p).2.2≠0)∧(∀s,(uS L k a b p).1=some s→(uS L k a b p).2.2=0∧aZ k a b s):=by
 unfold uS
 split
 · split
   · rename_i h
     refine⟨fun h=>(by cases h),fun s hs=>?_⟩
     cases hs
     exact⟨rfl,h⟩
   · exact⟨fun _=>(show(4:Int)≠0 by decide),fun s hs=>(by cases hs)⟩
 · exact⟨fun _=>(show(5:Int)≠0 by decide),fun s hs=>(by cases hs)⟩
theorem kZ {L:List Bool} {k a b n p:Nat}:nE L k a b (n+1) p=match uS L k a b p with
 | (some s,q,_)=>((nE L k a b n q).1.map (s:: ·),(nE L k a b n q).2)
 | (none,q,e)=>(none,q,e):=(rfl)
theorem JP {L:List Bool} {k a b p:Nat}:nE L k a b 0 p=(some [],p,0):=(rfl)
def TC (r:Option (List SR)×Nat×Int):V:=match r.1 with
 | some _=>.tup [.ref 1 0 0 0,.I 0]
 | none=>.tup [.lit (.pointer none),.I r.2.2]
def Vn (k a b n:Nat) (B:List Int) (r:Option (List SR)×Nat×Int):St:=match r.1 with
 | some l=> [some (bU B r.2.1),some (cX 2 k a b),some (cI 3 n (wd k a b)),some (cx n (wd k a b) (bj (wd k a b) (l.map (iL k a b))))]
 | none=> [some (bU B r.2.1)]
set_option maxHeartbeats 4000000 in
theorem yx {k a b n p:Nat} {B:List Int} (h:aX k a b) (hn:1≤n∧n≤256) (hI:gQ B) (hB:B.length≤1099511627776) (hp:p≤8*B.length):
 aA Tryz.prog 106 [.ref 0 0 0 0,pR k a b,.I n] [some (bU B p)] (TC (nE (bitsOf B) k a b n p)) (Vn k a b n B (nE (bitsOf B) k a b n p)):=by
 have hbl:=aG B;have cn:=oF h hn
 have hz:cx n (wd k a b) 0=cx n (wd k a b) (bj (wd k a b) (GL k a b n [])):=by
  show _=cx n (wd k a b) (bj (wd k a b) (List.replicate _ 0));rw[ij]
 rw[hz] at cn;clear hz;refine zF pl Tryz.call106 Tryz.func106 [.tmp 6,.tmp 7] fun Q hQ=>?_;refine ae ?_;refine zW [] [] cn ?_
 refine aU (X:=List SR×Nat) (st:=fun y=>([(0,.ref 0 0 0 0),(4,.ref 1 0 0 0),(8,.ref 2 0 0 0),(22,.I n),(23,.I y.1.length)],
  [some (bU B y.2),some (.cells [.I k,.I a,.I b]),some (cX 3 k a b),some (cI 4 n (wd k a b)),some (cx n (wd k a b) (bj (wd k a b) (GL k a b n y.1)))]))
  (inv:=fun y=>y.1.length≤n∧y.2≤(bitsOf B).length∧nE (bitsOf B) k a b n p=((nE (bitsOf B) k a b (n-y.1.length) y.2).1.map (y.1++ ·),(nE (bitsOf B) k a b (n-y.1.length) y.2).2)) (m:=fun y=>n-y.1.length)
  ([],p) [some 0,some 1,some 2,some 3,some 4] ⟨akF _,by omega,by simp⟩ ?_
 rintro ⟨l,q⟩ ⟨hl,hq,hr⟩;dsimp only at hl hq hr ⊢
 by_cases hil:l.length<n
 · obtain ⟨c,hc⟩:∃c,n-l.length=c+1:=⟨n-l.length-1,by omega⟩
   rw[hc] at hr;have rr:=qS (p:=q) h hI hB zo;have hle:=Cj (L:=bitsOf B) (k:=k) (a:=a) (b:=b) hq;have her:=qx (L:=bitsOf B) (k:=k) (a:=a) (b:=b) (p:=q);rw[kZ] at hr;generalize uS (bitsOf B) k a b q=v at*
   obtain ⟨o,q2,e⟩:=v;dsimp only at rr hle her
   cases o with
   | none=>
     have he:=her.1 rfl;dsimp only at he hr;rw[hr] at hQ;dsimp only[Option.map] at hQ;unfold TC Vn at hQ;dsimp only at hQ;refine ae ?_;refine zW [some 0] [] rr ?_;exact ai [some 0] hQ
   | some s=>
     obtain ⟨he,hws⟩:=her.2 s rfl;dsimp only at he hr;subst he;have st:=nV (n:=n) (i:=l.length) (N:=GL k a b n l) (s:=s) h hws hn.2 hil (L1 k a b hl) (SJ k a b n l);rw[show numOf (dr k a b s)=iL k a b s from rfl,Ng k a b hil] at st;refine ae ?_;refine zW [some 0] [] rr ?_;refine zW [some 2,some 3,some 4] [] st ?_;refine aI (l++[s],q2) [some 0,some 1,some 2,some 3,some 4] rfl ?_ ?_ ⟨by simp;omega,hle,?_⟩ (by simp;omega)
     · (simp(disch:=(first | omega | (simp only[cS,aki,akj,true_and,and_true];(try omega);done) | fail)) only[go_sem,Int.reduceEq,Int.reduceToNat,Nat.reduceAdd,Nat.reduceMul,Nat.reduceEqDiff, ↓reduceIte,true_and,and_true,and_self,akv,akw,akk,V.lit.injEq,Value.int.injEq,Value.bool.injEq];try (first | omega | (simp;done) | (simp;omega)))
     · dsimp only
       rw[ake,alj]
       (simp(disch:=(first | omega | (simp only[cS,aki,akj,true_and,and_true];(try omega);done) | fail)) only[go_sem,Int.reduceEq,Int.reduceToNat,Nat.reduceAdd,Nat.reduceMul,Nat.reduceEqDiff, ↓reduceIte,true_and,and_true,and_self,akv,akw,akk,V.lit.injEq,Value.int.injEq,Value.bool.injEq];try (first | omega | (simp;done) | (simp;omega)))
     · dsimp only
       rw[hr,ake,alj,show n-(l.length+1)=c by omega];generalize nE (bitsOf B) k a b c q2=w;obtain ⟨o,w2⟩:=w
       cases o with
       | none=>rfl
       | some x=>simp
 · have hln:l.length=n:=by omega
   rw[hln,Nat.sub_self] at hr;rw[JP] at hr;rw[hr] at hQ;unfold TC Vn at hQ;dsimp only[Option.map] at hQ;rw[List.append_nil,←Ll k a b hln] at hQ;exact zE [some 0,some 2,some 3,some 4] hQ
theorem wL {L:List Bool} {k a b:Nat}:∀{n p:Nat},p≤L.length→(nE L k a b n p).2.1≤L.length
 | 0,p,h=>h
 | n+1,p,h=>by
   rw[kZ];have h1:=Cj (k:=k) (a:=a) (b:=b) h;generalize uS L k a b p=v at*
   obtain ⟨o,q,e⟩:=v
   cases o with
   | none=>exact h1
   | some s=>exact wL (n:=n) h1
theorem sy {L:List Bool} {k a b:Nat}:∀{n p:Nat} {l:List SR},(nE L k a b n p).1=some l→(nE L k a b n p).2.2=0∧l.length=n∧∀s∈l,aZ k a b s
 | 0,p,l,h=>by
   injection h with h;subst h;exact⟨rfl,rfl,fun s hs=>by cases hs⟩
 | n+1,p,l,h=>by
   rw[kZ] at h ⊢;have h1:=(qx (L:=L) (k:=k) (a:=a) (b:=b) (p:=p)).2;generalize uS L k a b p=v at*
   obtain ⟨o,q,e⟩:=v
   cases o with
   | none=>cases h
   | some s=>
     dsimp only at h h1 ⊢;have ih:=fun l=>sy (L:=L) (k:=k) (a:=a) (b:=b) (n:=n) (p:=q) (l:=l);generalize nE L k a b n q=u at*
     obtain ⟨o,q2,e2⟩:=u
     cases o with
     | none=>cases h
     | some m=>
       injection h with h;subst h;obtain ⟨i1,i2,i3⟩:=ih _ rfl;refine⟨i1,by rw[akm,i2],fun x hx=>?_⟩;rcases aky.1 hx with rfl | hx
       · exact(h1 _ rfl).2
       · exact i3 x hx
theorem n6 {L:List Bool} {k a b:Nat}:∀{n p:Nat},(nE L k a b n p).1=none→(nE L k a b n p).2.2≠0
 | 0,p,h=>by cases h
 | n+1,p,h=>by
   rw[kZ] at h ⊢;have h1:=(qx (L:=L) (k:=k) (a:=a) (b:=b) (p:=p)).1;generalize uS L k a b p=v at*
   obtain ⟨o,q,e⟩:=v
   cases o with
   | none=>exact h1 rfl
   | some s=>
     dsimp only at h ⊢;have ih:=n6 (L:=L) (k:=k) (a:=a) (b:=b) (n:=n) (p:=q);generalize nE L k a b n q=u at*
     obtain ⟨o,q2,e2⟩:=u
     cases o with
     | none=>exact ih rfl
     | some m=>cases h
abbrev RW:=Nat×Nat×List SR
def ma (L:List Bool) (k a b C p:Nat):Option RW×Nat×Int:=
 if p+61≤L.length then
  (if p+122≤L.length then
   (if numOf ((L.drop p).take 61)<2305843009213693951∧numOf ((L.drop (p+61)).take 61)<2305843009213693951 then
    ((nE L k a b C (p+122)).1.map (fun l=>(numOf ((L.drop p).take 61),numOf ((L.drop (p+61)).take 61),l)),(nE L k a b C (p+122)).2)
    else(none,p+122,4))
   else(none,p+61,5))
 else(none,p,5)
theorem Du {L:List Bool} {k a b C p:Nat} (h:p≤L.length):(ma L k a b C p).2.1≤L.length:=by
 unfold ma
 split
 · split
   · split
     · exact wL (by assumption)
     · assumption
   · assumption
 · exact h
def bB (k a b C:Nat) (r:RW):Prop:=r.1<2305843009213693951∧r.2.1<2305843009213693951∧r.2.2.length=C∧∀s∈r.2.2,aZ k a b s
theorem uO {L:List Bool} {k a b C p:Nat} {r:RW} (h:(ma L k a b C p).1=some r):(ma L k a b C p).2.2=0∧bB k a b C r:=by
 unfold ma at*
 split at h
 · rename_i h1
   rw[if_pos h1]
   split at h
   · rename_i h2
     rw[if_pos h2]
     split at h
     · rename_i h3
       rw[if_pos h3];have ih:=fun l=>sy (L:=L) (k:=k) (a:=a) (b:=b) (n:=C) (p:=p+122) (l:=l);generalize nE L k a b C (p+122)=u at*
       obtain ⟨o,q,e⟩:=u
       cases o with
       | none=>cases h
       | some l=>
         injection h with h;subst h;obtain ⟨i1,i2,i3⟩:=ih _ rfl;exact⟨i1,h3.1,h3.2,i2,i3⟩
     · cases h
   · cases h
 · cases h
theorem Fk {L:List Bool} {k a b C p:Nat} (h:(ma L k a b C p).1=none):(ma L k a b C p).2.2≠0:=by
 unfold ma at*
 split at h
 · rename_i h1
   rw[if_pos h1]
   split at h
   · rename_i h2
     rw[if_pos h2]
     split at h
     · rename_i h3
       rw[if_pos h3];have ih:=n6 (L:=L) (k:=k) (a:=a) (b:=b) (n:=C) (p:=p+122);generalize nE L k a b C (p+122)=u at*
       obtain ⟨o,q,e⟩:=u
       cases o with
       | none=>exact ih rfl
       | some l=>cases h
     · rename_i h3
       rw[if_neg h3];exact(show(4:Int)≠0 by decide)
   · rename_i h2
     rw[if_neg h2];exact(show(5:Int)≠0 by decide)
 · rename_i h1
   rw[if_neg h1];exact(show(5:Int)≠0 by decide)
def fh (L:List Bool) (k a b C:Nat):Nat→Nat→Option (List RW)×Nat×Int
 | 0,p=>(some [],p,0)
 | n+1,p=>match ma L k a b C p with
   | (some r,q,_)=>((fh L k a b C n q).1.map (r:: ·),(fh L k a b C n q).2)
   | (none,q,e)=>(none,q,e)
theorem Bo {L:List Bool} {k a b C p:Nat}:fh L k a b C 0 p=(some [],p,0):=(rfl)
theorem ir {L:List Bool} {k a b C n p:Nat}:fh L k a b C (n+1) p=match ma L k a b C p with
 | (some r,q,_)=>((fh L k a b C n q).1.map (r:: ·),(fh L k a b C n q).2)
 | (none,q,e)=>(none,q,e):=(rfl)
theorem xg {L:List Bool} {k a b C:Nat}:∀{n p:Nat},p≤L.length→(fh L k a b C n p).2.1≤L.length
 | 0,p,h=>h
 | n+1,p,h=>by
   rw[ir];have h1:=Du (k:=k) (a:=a) (b:=b) (C:=C) h;generalize ma L k a b C p=v at*
   obtain ⟨o,q,e⟩:=v
   cases o with
   | none=>exact h1
   | some s=>exact xg (n:=n) h1
theorem rC {L:List Bool} {k a b C:Nat}:∀{n p:Nat} {l:List RW},(fh L k a b C n p).1=some l→(fh L k a b C n p).2.2=0∧l.length=n∧∀r∈l,bB k a b C r
 | 0,p,l,h=>by
   injection h with h;subst h;exact⟨rfl,rfl,fun s hs=>by cases hs⟩
 | n+1,p,l,h=>by
   rw[ir] at h ⊢;have h1:=fun r=>uO (L:=L) (k:=k) (a:=a) (b:=b) (C:=C) (p:=p) (r:=r);generalize ma L k a b C p=v at*
   obtain ⟨o,q,e⟩:=v
   cases o with
   | none=>cases h
   | some s=>
     dsimp only at h h1 ⊢;have ih:=fun l=>rC (L:=L) (k:=k) (a:=a) (b:=b) (C:=C) (n:=n) (p:=q) (l:=l);generalize fh L k a b C n q=u at*
     obtain ⟨o,q2,e2⟩:=u
     cases o with
     | none=>cases h
     | some m=>
       injection h with h;subst h;obtain ⟨i1,i2,i3⟩:=ih _ rfl;refine⟨i1,by rw[akm,i2],fun x hx=>?_⟩;rcases aky.1 hx with rfl | hx
       · exact(h1 _ rfl).2
       · exact i3 x hx
theorem s6 {L:List Bool} {k a b C:Nat}:∀{n p:Nat},(fh L k a b C n p).1=none→(fh L k a b C n p).2.2≠0
 | 0,p,h=>by cases h
 | n+1,p,h=>by
   rw[ir] at h ⊢;have h1:=Fk (L:=L) (k:=k) (a:=a) (b:=b) (C:=C) (p:=p);generalize ma L k a b C p=v at*
   obtain ⟨o,q,e⟩:=v
   cases o with
   | none=>exact h1 rfl
   | some s=>
     dsimp only at h ⊢;have ih:=s6 (L:=L) (k:=k) (a:=a) (b:=b) (C:=C) (n:=n) (p:=q);generalize fh L k a b C n q=u at*
     obtain ⟨o,q2,e2⟩:=u
     cases o with
     | none=>exact ih rfl
     | some m=>cases h
def D4 (L:List Bool) (R C k a b p:Nat):Option (List RW×Nat)×Nat×Int:=
 if (vX L p).2.2=0 then
  (if 1099511627776<(vX L p).1 then(none,(vX L p).2.1,4)
   else((fh L k a b C R (vX L p).2.1).1.map (fun l=>(l,(vX L p).1)),(fh L k a b C R (vX L p).2.1).2))
 else(none,(vX L p).2.1,(vX L p).2.2)
theorem RC {L:List Bool} {R C k a b p:Nat} (h:p≤L.length):(D4 L R C k a b p).2.1≤L.length:=by
 have h1:(vX L p).2.1≤L.length:=si _ _ _ _ h;unfold D4
 split
 · split
   · exact h1
   · exact xg h1
 · exact h1
theorem IB {L:List Bool} {R C k a b p:Nat} (h:(D4 L R C k a b p).1=none):(D4 L R C k a b p).2.2≠0:=by
 unfold D4 at*
 split at h
 · rename_i h1
   rw[if_pos h1]
   split at h
   · rename_i h2
     rw[if_pos h2];exact(show(4:Int)≠0 by decide)
   · rename_i h2
     rw[if_neg h2];exact s6 (amm.1 h)
 · rename_i h1
   rw[if_neg h1];exact h1
theorem Jq {L:List Bool} {R C k a b p:Nat} {x:List RW×Nat} (h:(D4 L R C k a b p).1=some x):(D4 L R C k a b p).2.2=0∧x.1.length=R∧x.2≤1099511627776∧∀r∈x.1,bB k a b C r:=by
 unfold D4 at*
 split at h
 · rename_i h1
   rw[if_pos h1]
   split at h
   · cases h
   · rename_i h2
     rw[if_neg h2];obtain ⟨l,hl,rfl⟩:=Option.map_eq_some_iff.1 h;obtain ⟨i1,i2,i3⟩:=rC hl;exact⟨i1,i2,by dsimp only;omega,i3⟩
 · cases h
def cE (v:Nat) (e:Int):Ob:=.cells [.ref v 0 0 0,.I e]
attribute [go_sem] cE
def eY (L:List Bool) (p:Nat) (e:Int):Int×Nat×Int:=
 if e=0 then
  (if (gX L p).2.2=0 then(if 1048576<(gX L p).1 then(IntKind.i64.wrap (((gX L p).1:Int)-1),(gX L p).2.1,13) else(((gX L p).1:Int)-1,(gX L p).2.1,0))
   else(0,(gX L p).2.1,(gX L p).2.2))
 else(0,p,e)
theorem bJ {L:List Bool} {p:Nat} {e:Int} (h:p≤L.length):(eY L p e).2.1≤L.length:=by
 have:=Kz h
 unfold eY
 split
 · split
   · split<;>exact this
   · exact this
 · exact h
set_option maxHeartbeats 1000000 in
theorem cc {B:List Int} {p:Nat} {e:Int} (hI:gQ B) (hB:B.length≤1099511627776) (hp:p≤8*B.length):aA Tryz.prog 107 [.ref 0 0 0 0] [some (cE 1 e),some (bU B p)]
 (.I (eY (bitsOf B) p e).1) [some (cE 1 (eY (bitsOf B) p e).2.2),some (bU B (eY (bitsOf B) p e).2.1)]:=by
 have g:=xp hI hB hp;have hlt:=Hl (L:=bitsOf B) (p:=p);have hpos:=IE (L:=bitsOf B) (p:=p);have herr:=QM (L:=bitsOf B) (p:=p);unfold eY;generalize gX (bitsOf B) p=v at*
 obtain ⟨n,q,f⟩:=v;dsimp only at g hlt hpos herr;refine zF pl Tryz.call107 Tryz.func107 [.tmp 2] fun Q hQ=>?_
 by_cases he:e=0
 · subst he
   rw[if_pos rfl] at hQ;dsimp only at hQ
   by_cases hf:f=0
   · subst hf
     rw[if_pos rfl] at hQ;have hn:=hpos rfl;have hmin:min (n:Int) 1=1:=by omega
     by_cases hn2:1048576<n
     · rw[if_pos hn2] at hQ
       dsimp only at hQ;refine ae ?_;refine aF [some 1] [] (g) ?_;refine bg hmin ?_;exact ai [some 0,some 1] hQ
     · rw[if_neg hn2] at hQ
       dsimp only at hQ;refine ae ?_;refine aF [some 1] [] (g) ?_;refine bg hmin ?_;exact ai [some 0,some 1] hQ
   · rw[if_neg hf] at hQ
     obtain rfl:=herr hf;dsimp only at hQ;refine ae ?_;refine zW [some 1] [] g ?_;rw[show((0:Nat):Int)-min ((0:Nat):Int) 1=0 from rfl];exact ai [some 0,some 1] hQ
 · rw[if_neg he] at hQ
   dsimp only at hQ;exact zE [some 0,some 1] hQ
def xy (L:List Bool) (p:Nat) (e:Int):(Int×Int×Int)×Nat×Int:=
 (((eY L p e).1,(eY L (eY L p e).2.1 (eY L p e).2.2).1,(eY L (eY L (eY L p e).2.1 (eY L p e).2.2).2.1 (eY L (eY L p e).2.1 (eY L p e).2.2).2.2).1),(eY L (eY L (eY L p e).2.1 (eY L p e).2.2).2.1 (eY L (eY L p e).2.1 (eY L p e).2.2).2.2).2)
theorem kN {L:List Bool} {p:Nat} {e:Int} (h:p≤L.length):(xy L p e).2.1≤L.length:=bJ (bJ (bJ h))
theorem oz {B:List Int} {p:Nat} {e:Int} (hI:gQ B) (hB:B.length≤1099511627776) (hp:p≤8*B.length):aA Tryz.prog 104 [.ref 0 0 0 0] [some (cE 1 e),some (bU B p)]
 (.agg [.I (xy (bitsOf B) p e).1.1,.I (xy (bitsOf B) p e).1.2.1,.I (xy (bitsOf B) p e).1.2.2]) [some (cE 1 (xy (bitsOf B) p e).2.2),some (bU B (xy (bitsOf B) p e).2.1)]:=by
 have hbl:=aG B;have n1:=cc (e:=e) hI hB hp;have l1:=bJ (L:=bitsOf B) (e:=e) (p:=p) zo;unfold xy;generalize eY (bitsOf B) p e=v at*
 obtain ⟨x1,p1,e1⟩:=v;dsimp only at n1 l1;have n2:=cc (e:=e1) hI hB (show p1≤8*B.length by omega);have l2:=bJ (L:=bitsOf B) (e:=e1) (p:=p1) l1;generalize eY (bitsOf B) p1 e1=v at*
 obtain ⟨x2,p2,e2⟩:=v;dsimp only at n2 l2;have n3:=cc (e:=e2) hI hB (show p2≤8*B.length by omega);dsimp only;generalize eY (bitsOf B) p2 e2=v at*
 obtain ⟨x3,p3,e3⟩:=v;dsimp only at n3 ⊢;refine zF pl Tryz.call104 Tryz.func104 [.cell 2 34] fun Q hQ=>?_;refine ae ?_;refine zW [some 0,some 1] [] n1 ?_;refine zW [some 0,some 1] [] n2 ?_;refine zW [some 0,some 1] [] n3 ?_;exact ai [some 0,some 1] hQ
def Iq (R C k a b:Int):Prop:=(1≤R∧R≤4∧1≤C∧C≤64)∧mD k a b
theorem ri {R C:Int} {k a b:Nat} (h:1≤R∧R≤4∧1≤C∧C≤64) (hg:aX k a b):aA Tryz.prog 82 [.agg [.I R,.I C,.I k,.I a,.I b]] [] (.I 0) []:=by
 have rc:=fg hg;obtain ⟨h1,h2,h3,h4⟩:=h;refine zF pl Tryz.call82 Tryz.func82 [.tmp 2] fun Q hQ=>?_;refine ae ?_;refine zC rc ?_;exact ai [] hQ
theorem xL {R C k a b:Int} (h:¬Iq R C k a b):aA Tryz.prog 82 [.agg [.I R,.I C,.I k,.I a,.I b]] [] (.I 10) []:=by
 refine zF pl Tryz.call82 Tryz.func82 [.tmp 2] fun Q hQ=>?_
 by_cases h1:R<1
 · refine ae ?_
   exact ai [] hQ
 · by_cases h2:4<R
   · refine ae ?_
     exact ai [] hQ
   · by_cases h3:C<1
     · refine ae ?_
       exact ai [] hQ
     · by_cases h4:64<C
       · refine ae ?_
         exact ai [] hQ
       · have rc:=jT (k:=k) (a:=a) (b:=b) (fun hg=>h ⟨⟨by omega,by omega,by omega,by omega⟩,hg⟩)
         refine ae ?_;refine zC rc ?_;exact ai [] hQ
theorem vo {A B:Nat}:aA Tryz.prog 83 [.agg [.lit (.int .u64 A),.lit (.int .u64 B)]] [] (.I (if A<2305843009213693951∧B<2305843009213693951 then 0 else 2)) []:=by
 refine zF pl Tryz.call83 Tryz.func83 [.tmp 2] fun Q hQ=>?_
 by_cases h1:A<2305843009213693951
 · by_cases h2:B<2305843009213693951
   · rw[if_pos ⟨h1,h2⟩] at hQ
     exact zE [] hQ
   · rw[if_neg (fun h=>h2 h.2)] at hQ
     exact zE [] hQ
 · rw[if_neg (fun h=>h1 h.1)] at hQ
   exact zE [] hQ
theorem I2 {k a b n:Int} (h:¬mD k a b):aA Tryz.prog 79 [.agg [.I k,.I a,.I b],.I n] [] (.tup [.lit (.pointer none),.I 10]) []:=by
 have rc:=jT h;refine zF pl Tryz.call79 Tryz.func79 [.tmp 4,.tmp 5] fun Q hQ=>?_;refine ae ?_;refine zC rc ?_;exact ai [] hQ
theorem Gi {k a b:Nat} {n:Int} (h:aX k a b) (hn:n<1∨256<n):aA Tryz.prog 79 [pR k a b,.I n] [] (.tup [.lit (.pointer none),.I 10]) []:=by
 have rc:=fg h;refine zF pl Tryz.call79 Tryz.func79 [.tmp 4,.tmp 5] fun Q hQ=>?_
 by_cases h1:n<1
 · refine ae ?_
   refine zC rc ?_;exact ai [] hQ
 · have h2:256<n:=by omega
   refine ae ?_;refine zC rc ?_;exact ai [] hQ
theorem IN {k a b n:Int} (h:¬(mD k a b∧1≤n∧n≤256)):aA Tryz.prog 79 [.agg [.I k,.I a,.I b],.I n] [] (.tup [.lit (.pointer none),.I 10]) []:=by
 by_cases hg:mD k a b
 · have hn:n<1∨256<n:=by
    refine Classical.byContradiction fun hc=>h ⟨hg,by omega,by omega⟩
   obtain ⟨k',a',b',rfl,rfl,rfl,hg⟩:=hg;exact Gi hg hn
 · exact I2 hg
theorem Ga {k a b n:Int} {p:Nat} {B:List Int} (h:¬(mD k a b∧1≤n∧n≤256)):aA Tryz.prog 106 [.ref 0 0 0 0,.agg [.I k,.I a,.I b],.I n] [some (bU B p)]
 (.tup [.lit (.pointer none),.I 10]) [some (bU B p)]:=by
 have cn:=IN h;refine zF pl Tryz.call106 Tryz.func106 [.tmp 6,.tmp 7] fun Q hQ=>?_;refine ae ?_;refine zC cn ?_;exact ai [some 0] hQ
theorem EF {k a b:Int} {p:Nat} {B:List Int} (h:¬mD k a b):aA Tryz.prog 105 [.agg [.I k,.I a,.I b],.ref 0 0 0 0] [some (bU B p)]
 (.tup [fM none,.I 10]) [some (bU B p)]:=by
 have rc:=jT h;refine zF IH Tryz.call105 Tryz.func105 [.cell 4 36,.tmp 5] fun Q hQ=>?_;refine ae ?_;refine zC rc ?_;exact ai [some 0] hQ
theorem z5 {R C k a b:Int} {p:Nat} {B:List Int} (h:¬Iq R C k a b):aA Tryz.prog 109 [.ref 0 0 0 0,.agg [.I R,.I C,.I k,.I a,.I b]] [some (bU B p)]
 (.tup [.lit (.pointer none),.I 10]) [some (bU B p)]:=by
 have rc:=xL h;refine zF Lf Tryz.call109 Tryz.func109 [.tmp 4,.tmp 5] fun Q hQ=>?_;refine ae ?_;refine zC rc ?_;exact ai [some 0] hQ
end Go.Proofs.YtcnlmelpnflhnaaGreat
