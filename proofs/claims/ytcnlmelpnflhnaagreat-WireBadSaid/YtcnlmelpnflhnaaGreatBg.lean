import Derived.Test.YtcnlmelpnflhnaaGreatBf
import Derived.Test.YtcnlmelpnflhnaaGreatHd
namespace Go.Proofs.YtcnlmelpnflhnaaGreat
open Go.Eng Go.Vx
set_option linter.unusedSimpArgs false
set_option linter.unusedVariables false
set_option maxRecDepth 100000
def BY (L:List Bool) (a b:Nat) (x:TS):Prop:=x.1.1≤a∧x.1.2.1≤b∧(x.1.2.2=true→x.1.2.1=b)∧x.2.1≤L.length
theorem BY.okD {L:List Bool} {a b:Nat} {x:TS} (ha:a≤1000) (h:BY L a b x):okD L b x:=⟨akE h.1 ha,h.2⟩
theorem Ry {L:List Bool} {a b:Nat} (hL:L.length≤1048576) (ha:a≤999) (hb:b≤100) (x:TS) (hx:BY L a b x):∃y:Int×TS,y.2.2.1≤L.length∧(y.1=0→BY L a b y.2)∧
 aA Tryz.prog 123 [.agg [.I a,.I b],.ref 0 0 0 0,sR x.1] [some (bm L x.2.1 x.2.2)] (.tup [sR y.2.1,.I y.1]) [some (bm L y.2.2.1 y.2.2.2)]:=by
 obtain ⟨⟨Y,T,F⟩,p,d⟩:=x;obtain ⟨h1,h2,h3,h4⟩:=hx;dsimp only at h1 h2 h3 h4;obtain ⟨hb1,e,q,d',hq,h⟩:=wH (k:=(T:Int)) (K:=T) (d:=d) hL h4 zo zo
 cases hb1 with
 | false=>
   refine⟨(e,(Y,T,F),q,d'),hq,fun _=>⟨h1,h2,h3,hq⟩,?_⟩;refine zF pl Tryz.call123 Tryz.func123 [.cell 6 131,.tmp 7] fun Q hQ=>?_;refine ae ?_;refine zW [some 0] [] h ?_;exact ai [some 0] hQ
 | true=>
   obtain ⟨y,y1,y2,y3⟩:=NS (a:=a) hL zo hb ((Y+1,T,F),q,d') ⟨by dsimp only;omega,h2,h3,hq⟩;refine⟨y,y1,fun he=>⟨(y2 he).2,(y2 he).1.2⟩,?_⟩;obtain ⟨E,⟨Y2,T2,F2⟩,q2,d2⟩:=y;dsimp only at y3 ⊢;have hY1:((Y+1:Nat):Int)=(Y:Int)+1:=by omega
   simp only[sR,hY1] at y3;refine zF pl Tryz.call123 Tryz.func123 [.cell 6 131,.tmp 7] fun Q hQ=>?_;refine ae ?_;refine zW [some 0] [] h ?_;refine zW [some 0] [] y3 ?_;exact ai [some 0] hQ
theorem Gs {a b:Nat} {s:Nat×Nat×Bool} (h1:1≤a) (h2:a≤1023) (h3:b≤20) (w1:s.1≤a) (w2:s.2.1≤b) (w3:s.2.2=true→s.2.1=b):aA Tryz.prog 122 [.agg [.I a,.I b],.row 3 [[.I s.1,.I s.2.1,.lit (.bool s.2.2)]]] [] (.I 0) []:=by
 have rc:=l7 h1 h2 h3;have rw':=xW h1 h2 h3 w1 w2 w3;refine zF pl Tryz.call122 Tryz.func122 [.tmp 4] fun Q hQ=>?_;refine ae ?_;refine zC rc ?_
 refine aU (X:=Nat) (st:=fun i=>([(2,.ref 0 0 0 0),(13,.row 3 [[.I s.1,.I s.2.1,.lit (.bool s.2.2)]]),(14,.I 1),(15,.I i)],
  [some (.cells [.I a,.I b])]))
  (inv:=fun i=>i≤1) (m:=fun i=>1-i) 0 [some 0] (akF _) ?_
 intro i hi
 by_cases hil:i<1
 · obtain rfl:i=0:=by omega
   refine ae ?_;refine zC rw' ?_;refine aR 1 [some 0] (akk _) zd
 · obtain rfl:i=1:=by omega
   exact zE [] hQ
def pS (G:TS→Int×TS) (s:TS):Nat→TS→Int×TS
 | 0,x=>(0,x)
 | n+1,x=>if (G x).1≠0 then((G x).1,s.1,(G x).2.2) else pS G s n (G x).2
theorem BS {G:TS→Int×TS} {s x:TS}:pS G s 0 x=(0,x):=rfl
theorem sU {G:TS→Int×TS} {s x:TS} {n:Nat}:pS G s (n+1) x=if (G x).1≠0 then((G x).1,s.1,(G x).2.2) else pS G s n (G x).2:=rfl
theorem yR {L:List Bool} {a b:Nat} {G:TS→Int×TS} {s:TS} (hG:∀x,BY L a b x→(G x).2.2.1≤L.length∧((G x).1=0→BY L a b (G x).2)) (hs:BY L a b s):∀n x,BY L a b x→BY L a b (pS G s n x).2
 | 0,x,h=>h
 | n+1,x,h=>by
   rw[sU]
   split
   · exact⟨hs.1,hs.2.1,hs.2.2.1,(hG x h).1⟩
   · rename_i h1
     exact yR hG hs n _ ((hG x h).2 (Classical.not_not.1 h1))
theorem N6 {L:List Bool} {a b n:Nat} (hL:L.length≤1048576) (ha1:1≤a) (ha:a≤999) (hb:b≤20) (hn:n≤100) (x:TS) (hx:BY L a b x):∃y:Int×TS,BY L a b y.2∧
 aA Tryz.prog 63 [.agg [.I a,.I b],.ref 0 0 0 0,sR x.1,.I n] [some (bm L x.2.1 x.2.2)] (.tup [sR y.2.1,.I y.1]) [some (bm L y.2.2.1 y.2.2.2)]:=by
 obtain ⟨G,hG⟩:=Classical.skolem.1 fun x=>show∃y:Int×TS,BY L a b x→y.2.2.1≤L.length∧(y.1=0→BY L a b y.2)∧
  aA Tryz.prog 123 [.agg [.I a,.I b],.ref 0 0 0 0,sR x.1] [some (bm L x.2.1 x.2.2)] (.tup [sR y.2.1,.I y.1]) [some (bm L y.2.2.1 y.2.2.2)] from by
  by_cases h:BY L a b x
  · obtain ⟨y,hy⟩:=Ry hL ha zo x h
    exact⟨y,fun _=>hy⟩
  · exact⟨(0,x),fun h'=>absurd h' h⟩
 refine⟨pS G x n x,yR (fun x h=>⟨(hG x h).1,(hG x h).2.1⟩) hx n x hx,?_⟩;obtain ⟨⟨Y,T,F⟩,p,d⟩:=x;have wr:=Gs (s:=(Y,T,F)) ha1 zo hb hx.1 hx.2.1 hx.2.2.1;have hmx:max 0 (n:Int)=(n:Int):=by omega
 dsimp only at wr ⊢;refine zF pl Tryz.call63 Tryz.func63 [.cell 8 131,.tmp 9] fun Q hQ=>?_;refine ae ?_;refine aF [] [4] (wr) ?_;refine bg hmx ?_
 refine aU (X:=Nat×TS) (st:=fun z=>([(1,.ref 0 0 0 0),(4,.ref 1 0 0 0),(6,.ref 2 0 0 0),(8,.ref 3 0 0 0),(11,.ref 4 0 0 0),(27,.I n),(28,.I z.1)],
  [some (bm L z.2.2.1 z.2.2.2),some (.cells [.I a,.I b]),some (.cells [.I Y,.I T,.lit (.bool F)]),some (.cells [.I 0,.I 0,.lit (.bool false)]),some (.cells [.I z.2.1.1,.I z.2.1.2.1,.lit (.bool z.2.1.2.2)])]))
  (inv:=fun z=>z.1≤n∧BY L a b z.2∧pS G ((Y,T,F),p,d) n ((Y,T,F),p,d)=pS G ((Y,T,F),p,d) (n-z.1) z.2) (m:=fun z=>n-z.1) (0,(Y,T,F),p,d) [some 0,some 1,some 2,some 3,some 5] ⟨by simp,hx,rfl⟩ ?_
 rintro ⟨i,⟨Y1,T1,F1⟩,p1,d1⟩ ⟨hi,hz,hv⟩;dsimp only at hi hz hv ⊢
 by_cases hin:i<n
 · obtain ⟨r,hr⟩:∃r,n-i=r+1:=⟨n-i-1,by omega⟩
   have g:=hG ((Y1,T1,F1),p1,d1) hz;rw[hr,sU] at hv;generalize G ((Y1,T1,F1),p1,d1)=gx at g hv;obtain ⟨E,⟨Y2,T2,F2⟩,p2,d2⟩:=gx;obtain ⟨g1,g2,g3⟩:=g;dsimp only at g1 g2 g3 hv
   by_cases hE:E=0
   · subst hE
     rw[if_neg (by simp)] at hv;refine ae ?_;refine zW [some 0] [] g3 ?_;refine aR (i+1,(Y2,T2,F2),p2,d2) [some 0,some 1,some 2,some 3,some 4] ⟨by omega,g2 rfl,?_⟩ zo;rw[hv,show n-(i+1)=r by omega]
   · rw[if_pos hE] at hv
     rw[hv] at hQ;refine ae ?_;refine zW [some 0] [] g3 ?_;exact ai [some 0] hQ
 · obtain rfl:i=n:=by omega
   rw[alw,BS] at hv;rw[hv] at hQ;exact zE [some 0] hQ
def jU (k a b:Nat):Prop:=oK k a b∨k=4∧1≤a∧a≤8∧b≤4
theorem fm {k a b:Nat} (h:jU k a b):aX k a b:=by
 rcases h with h | ⟨rfl,h1,h2,h3⟩
 · exact(gH h).1
 · exact .inr (.inr (.inr ⟨rfl,h1,by omega,by omega⟩))
theorem KQ {K T:Int} {F:Bool}:aA Tryz.prog 68 [.agg [.I K,.I T,.lit (.bool F)]] [] (.agg [.I K,.lit (.bool F)]) []:=by
 refine zF pl Tryz.call68 Tryz.func68 [.cell 2 140] fun Q hQ=>?_;exact zE [] hQ
theorem Bq {K:Int} {F:Bool}:aA Tryz.prog 69 [.agg [.I K,.lit (.bool F)]] [] (.agg [.I K,.I 0,.lit (.bool F)]) []:=by
 refine zF pl Tryz.call69 Tryz.func69 [.cell 2 36] fun Q hQ=>?_;exact zE [] hQ
theorem AJ {K T:Int} {F:Bool}:aA Tryz.prog 65 [.agg [.I K,.I T,.lit (.bool F)]] [] (.agg [.I K,.I T,.lit (.bool F)]) []:=by
 refine zF pl Tryz.call65 Tryz.func65 [.cell 2 36] fun Q hQ=>?_;exact zE [] hQ
theorem MK {L:List Bool} {k a b n p:Nat} {d:Bool} {s:Nat×Nat×Bool} (hL:L.length≤1048576) (hs:jU k a b) (hn:n≤100) (hw:aZ k a b s) (hp:p≤L.length):∃(e:Int) (s':Nat×Nat×Bool) (q:Nat) (d':Bool),aZ k a b s'∧q≤L.length∧
 aA Tryz.prog 16 [pR k a b,.ref 0 0 0 0,sR s,.I n] [some (bm L p d)] (.tup [sR s',.I e]) [some (bm L q d')]:=by
 have wr:=ux (fm hs) hw;obtain ⟨K,T,F⟩:=s;rcases hs with hs | ⟨rfl,h1,h2,h3⟩
 · have h4:=(gH hs).2
   unfold aZ at hw;rw[if_neg h4] at hw;obtain ⟨w1,w2,w3⟩:=hw;dsimp only at w1 w2 w3;subst w1;obtain ⟨⟨e,K2,F2,q,d'⟩,y1,y2⟩:=Oi (n:=n) hL hs hn (K,F,p,d) ⟨w2,w3,hp⟩;refine⟨e,(K2,0,F2),q,d',?_,y1.2.2,?_⟩
   · unfold aZ
     rw[if_neg h4];exact⟨rfl,y1.1,y1.2.1⟩
   have l1:=KQ (K:=(K:Int)) (T:=0) (F:=F);have l2:=Bq (K:=(K2:Int)) (F:=F2);have l3:=jv (k:=(k:Int)) (a:=(a:Int)) (b:=(b:Int));dsimp only at y2 wr ⊢;refine zF MD Tryz.call16 Tryz.func16 [.cell 8 36,.tmp 9] fun Q hQ=>?_;refine ae ?_;refine zW [] [4] wr ?_;refine zC l3 ?_;refine zC l1 ?_;refine zW [some 0] [] y2 ?_;refine zC l2 ?_;exact ai [some 0] hQ
 · unfold aZ at hw
   rw[if_pos rfl] at hw;obtain ⟨w1,w2,w3⟩:=hw;dsimp only at w1 w2 w3;obtain ⟨⟨e,⟨K2,T2,F2⟩,q,d'⟩,y1,y2⟩:=N6 (n:=n) hL h1 zo zo hn ((K,T,F),p,d) ⟨w1,w2,w3,hp⟩;refine⟨e,(K2,T2,F2),q,d',?_,y1.2.2.2,?_⟩
   · unfold aZ
     rw[if_pos rfl];exact⟨y1.1,y1.2.1,y1.2.2.1⟩
   have l1:=kY (K:=(K:Int)) (T:=(T:Int)) (F:=F);have l2:=AJ (K:=(K2:Int)) (T:=(T2:Int)) (F:=F2);have l3:=kD (k:=4) (a:=(a:Int)) (b:=(b:Int));dsimp only at y2 wr ⊢;refine zF MD Tryz.call16 Tryz.func16 [.cell 8 36,.tmp 9] fun Q hQ=>?_;refine ae ?_;refine zW [] [4] wr ?_;refine zC l3 ?_;refine zC l1 ?_;refine zW [some 0] [] y2 ?_;refine zC l2 ?_;exact ai [some 0] hQ
def bV (k a b:Nat) (l:List SR):Nat:=bj (wd k a b) (l.map (iL k a b))
def m9 (k a b C:Nat) (l:List SR):PV:=.ptr 4 [[.ptr 3 [[.row 1 ((words (bq C (wd k a b)) (bV k a b l)).map (ie .u64)),.I C,.I (wd k a b:Int)]] 0 0,.I k,.I a,.I b]] 0 0
def crF (k a b n:Nat) (r:Option (List SR)×Nat×Int):V:=match r.1 with
 | some l=>.tup [kO k a b n (wd k a b) (bV k a b l),.I 0]
 | none=>.tup [.lit (.pointer none),.I r.2.2]
theorem EY {k a b n p:Nat} {B:List Int} (h:aX k a b) (hn:1≤n∧n≤256) (hI:gQ B) (hB:B.length≤1099511627776) (hp:p≤8*B.length):
 aA Tryz.prog 106 [.ref 0 0 0 0,pR k a b,.I n] [some (bU B p)] (crF k a b n (nE (bitsOf B) k a b n p)) [some (bU B (nE (bitsOf B) k a b n p).2.1)]:=by
 have cr:=yx h hn hI hB hp;generalize nE (bitsOf B) k a b n p=v at*
 obtain ⟨o,q,e⟩:=v
 cases o with
 | none=>exact cr
 | some l=>
   unfold TC Vn at cr;dsimp only at cr;change aA _ _ _ _ (.tup [kO k a b n (wd k a b) (bV k a b l),.I 0]) [some (bU B q)];have hlw:=aB (bq n (wd k a b)) (bV k a b l);change aA _ _ _ _ _ [some (bU B q),some (cX 2 k a b),some (cI 3 n (wd k a b)),some (cx n (wd k a b) (bV k a b l))] at cr;generalize bV k a b l=x at*
   exact sF [some 0] (cr)
def iM (k a b C:Nat) (r:RW):List PV:=[.lit (.int .u64 r.1),.lit (.int .u64 r.2.1),m9 k a b C r.2.2]
def jd (R C k a b:Nat) (l:List RW) (T:Nat):Ob:=.cells [.I R,.I C,.I k,.I a,.I b,.row 3 (l.map (iM k a b C)),.I T]
def tQ (R C k a b:Nat) (l:List RW) (T:Nat):V:=.rref 7 [[.I R,.I C,.I k,.I a,.I b,.row 3 (l.map (iM k a b C)),.I T]] 0 0
attribute [go_sem] jd tQ
def Lu (r:Option (List RW×Nat)×Nat×Int):V:=match r.1 with
 | some _=>.tup [.ref 1 0 0 0,.I 0]
 | none=>.tup [.lit (.pointer none),.I r.2.2]
def LH (R C k a b:Nat) (B:List Int) (r:Option (List RW×Nat)×Nat×Int):St:=match r.1 with
 | some x=> [some (bU B r.2.1),some (jd R C k a b x.1 x.2)]
 | none=> [some (bU B r.2.1)]
set_option maxHeartbeats 4000000 in
theorem EK {R C k a b p:Nat} {B:List Int} (hR:1≤R∧R≤4) (hC:1≤C∧C≤64) (h:aX k a b) (hI:gQ B) (hB:B.length≤1099511627776) (hp:p≤8*B.length):
 aA Tryz.prog 109 [.ref 0 0 0 0,.agg [.I R,.I C,.I k,.I a,.I b]] [some (bU B p)] (Lu (D4 (bitsOf B) R C k a b p)) (LH R C k a b B (D4 (bitsOf B) R C k a b p)):=by
 have ck:=ri (R:=(R:Int)) (C:=(C:Int)) ⟨by omega,by omega,by omega,by omega⟩ h;have hbl:=aG B;have vv:=JY hI hB hp;have hvq:(vX (bitsOf B) p).2.1≤(bitsOf B).length:=si _ _ _ _ zo;refine zF Lf Tryz.call109 Tryz.func109 [.tmp 4,.tmp 5] fun Q hQ=>?_;unfold D4 at hQ;generalize vX (bitsOf B) p=v at*
 obtain ⟨T,q0,ev⟩:=v;dsimp only at vv hvq hQ;refine ae ?_;refine zC ck ?_;refine aF [some 0] [] (vv) ?_
 by_cases he:ev=0
 · subst he
   rw[if_pos rfl] at hQ
   by_cases hT:1099511627776<T
   · rw[if_pos hT] at hQ
     unfold Lu LH at hQ;dsimp only at hQ;exact zE [some 0] hQ
   · rw[if_neg hT] at hQ
     refine ae ?_
     refine aU (X:=List RW×Nat) (st:=fun y=>([(0,.ref 0 0 0 0),(3,.ref 1 0 0 0),(9,.ref 2 0 0 0),(38,.I R),(39,.I y.1.length)],
      [some (bU B y.2),some (.cells [.I R,.I C,.I k,.I a,.I b]),some (.cells [.I R,.I C,.I k,.I a,.I b,.sl 3 3 0 y.1.length,.I T]),some (.row 3 (y.1.map (iM k a b C)))]))
      (inv:=fun y=>y.1.length≤R∧y.2≤(bitsOf B).length∧fh (bitsOf B) k a b C R q0=((fh (bitsOf B) k a b C (R-y.1.length) y.2).1.map (y.1++ ·),(fh (bitsOf B) k a b C (R-y.1.length) y.2).2)) (m:=fun y=>R-y.1.length)
      ([],q0) [some 0,some 1,some 2,none] ⟨akF _,hvq,by simp⟩ ?_
     rintro ⟨l,q⟩ ⟨hl,hq,hr⟩;dsimp only at hl hq hr ⊢
     by_cases hil:l.length<R
     · obtain ⟨c,hc⟩:∃c,R-l.length=c+1:=⟨R-l.length-1,by omega⟩
       rw[hc,ir] at hr;have hA:=aL ((bitsOf B).drop q) 61;have hB2:=aL ((bitsOf B).drop (q+61)) 61;have rw1:=Du (k:=k) (a:=a) (b:=b) (C:=C) hq;have rs:=fun r=>uO (L:=bitsOf B) (k:=k) (a:=a) (b:=b) (C:=C) (p:=q) (r:=r);unfold ma at hr rw1 rs;have r1:=aP (B:=B) (p:=q) (w:=61) hI hB zd;have r2:=aP (B:=B) (p:=q+61) (w:=61) hI hB zd;rw[show((61:Nat):Int)=61 from rfl] at r1 r2;generalize hga:numOf (((bitsOf B).drop q).take 61)=A at*
       generalize hgb:numOf (((bitsOf B).drop (q+61)).take 61)=D at*
       clear hga hgb;refine ae ?_
       refine aU (X:=Nat×Nat×Nat×Nat) (st:=fun x=>([(0,.ref 0 0 0 0),(3,.ref 1 0 0 0),(9,.ref 2 0 0 0),(10,.ref 4 0 0 0),(38,.I R),(39,.I l.length),(43,.agg [.ref 4 0 0 0,.ref 4 0 0 1]),(44,.I x.1)],
        [some (bU B x.2.2.2),some (.cells [.I R,.I C,.I k,.I a,.I b]),some (.cells [.I R,.I C,.I k,.I a,.I b,.sl 3 3 0 l.length,.I T]),some (.row 3 (l.map (iM k a b C))),some (.cells [.lit (.int .u64 x.2.1),.lit (.int .u64 x.2.2.1)])]))
        (inv:=fun x=>x=(0,0,0,q)∨(q+61≤(bitsOf B).length∧x=(1,A,0,q+61))∨(q+122≤(bitsOf B).length∧x=(2,A,D,q+122))) (m:=fun x=>2-x.1)
        (0,0,0,q) [some 0,some 1,some 2,some 3,some 4] (.inl rfl) ?_
       rintro x (rfl | ⟨h61,rfl⟩ | ⟨h122,rfl⟩)
       · by_cases h61:q+61≤(bitsOf B).length
         · have r1:=r1 zo
           refine ae ?_;refine zW [some 0] [] r1 ?_;refine aR (1,A,0,q+61) [some 0,some 1,some 2,some 3,some 4] (.inr (.inl ⟨h61,rfl⟩)) (show 2-1<2-0 by decide)
         · have rn:=jB (B:=B) (p:=q) (w:=61) hI hB zd zo zo
           rw[show((61:Nat):Int)=61 from rfl] at rn;rw[if_neg h61] at hr;rw[hr] at hQ;unfold Lu LH at hQ;dsimp only[Option.map] at hQ;refine ae ?_;refine zW [some 0] [] rn ?_;exact ai [some 0] hQ
       · by_cases h122:q+122≤(bitsOf B).length
         · have r2:=r2 zo
           refine ae ?_;refine zW [some 0] [] r2 ?_;refine aR (2,A,D,q+122) [some 0,some 1,some 2,some 3,some 4] (.inr (.inr ⟨h122,rfl⟩)) (show 2-2<2-1 by decide)
         · have rn:=jB (B:=B) (p:=q+61) (w:=61) hI hB zd zo zo
           rw[show((61:Nat):Int)=61 from rfl] at rn;rw[if_pos h61,if_neg h122] at hr;rw[hr] at hQ;unfold Lu LH at hQ;dsimp only[Option.map] at hQ;refine ae ?_;refine zW [some 0] [] rn ?_;exact ai [some 0] hQ
       · rw[if_pos zo,if_pos h122] at hr rw1 rs
         have hc:=vo (A:=A) (B:=D)
         by_cases hok:A<2305843009213693951∧D<2305843009213693951
         · rw[if_pos hok] at hr hc rw1 rs
           have cr:=EY (n:=C) (p:=q+122) h ⟨hC.1,by omega⟩ hI hB zo;have hle:=wL (L:=bitsOf B) (k:=k) (a:=a) (b:=b) (n:=C) h122;have hno:=n6 (L:=bitsOf B) (k:=k) (a:=a) (b:=b) (n:=C) (p:=q+122);generalize nE (bitsOf B) k a b C (q+122)=w at*
           obtain ⟨o,q2,e⟩:=w
           cases o with
           | none=>
             have hno:=hno rfl;unfold crF at cr;dsimp only[Option.map] at cr hr hno;rw[hr] at hQ;unfold Lu LH at hQ;dsimp only[Option.map] at hQ;refine ae ?_;refine zC hc ?_;refine zW [some 0] [] cr ?_;exact ai [some 0] hQ
           | some m=>
             have rs:=rs _ rfl;unfold crF at cr;dsimp only[Option.map] at cr hr rs hle;refine ae ?_;refine zC hc ?_;refine zW [some 0] [] cr ?_;refine aI (l++[(A,D,m)],q2) [some 0,some 1,some 2,some 6] rfl ?_ ?_ ⟨by rw[List.length_append];exact hil,hle,?_⟩ (by dsimp only;rw[List.length_append,List.length_singleton];omega)
             · dsimp only
               rw[alQ,ake,alj];simp only[akK,akV,iM,m9]
               (simp(disch:=(first | omega | (simp only[cS,aki,akj,true_and,and_true];(try omega);done) | fail)) only[go_sem,Int.reduceEq,Int.reduceToNat,Nat.reduceAdd,Nat.reduceMul,Nat.reduceEqDiff, ↓reduceIte,true_and,and_true,and_self,akv,akw,akk,V.lit.injEq,Value.int.injEq,Value.bool.injEq];try (first | omega | (simp;done) | (simp;omega)))
             · dsimp only
               rw[ake,alj]
               (simp(disch:=(first | omega | (simp only[cS,aki,akj,true_and,and_true];(try omega);done) | fail)) only[go_sem,Int.reduceEq,Int.reduceToNat,Nat.reduceAdd,Nat.reduceMul,Nat.reduceEqDiff, ↓reduceIte,true_and,and_true,and_self,akv,akw,akk,V.lit.injEq,Value.int.injEq,Value.bool.injEq];try (first | omega | (simp;done) | (simp;omega)))
             · dsimp only
               rw[hr,ake,alj,show R-(l.length+1)=c by omega];generalize fh (bitsOf B) k a b C c q2=w;obtain ⟨o,w2⟩:=w
               cases o with
               | none=>rfl
               | some x=>simp
         · rw[if_neg hok] at hr hc
           dsimp only at hr;rw[hr] at hQ;unfold Lu LH at hQ;dsimp only[Option.map] at hQ;refine ae ?_;refine zC hc ?_;exact ai [some 0] hQ
     · have hln:l.length=R:=by omega
       rw[hln,Nat.sub_self,Bo] at hr;rw[hr] at hQ;unfold Lu LH at hQ;dsimp only[Option.map] at hQ;rw[List.append_nil] at hQ;exact zE [some 0,some 2] hQ
 · rw[if_neg he] at hQ
   unfold Lu LH at hQ;dsimp only at hQ;exact zE [some 0] hQ
end Go.Proofs.YtcnlmelpnflhnaaGreat
