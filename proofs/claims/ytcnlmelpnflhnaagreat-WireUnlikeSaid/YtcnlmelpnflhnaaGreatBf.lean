import Derived.Test.YtcnlmelpnflhnaaGreatBe
namespace Go.Proofs.YtcnlmelpnflhnaaGreat
open Go.Eng Go.Vx
set_option linter.unusedSimpArgs false
set_option linter.unusedVariables false
set_option maxRecDepth 100000
theorem z6 {L:List Bool} {Y T p:Nat} {F d:Bool} (hL:L.length≤1048576) (hp:p≤L.length) (hY:Y≤1000) (hT:T≤1000):∃(e:Int) (Y' T' q:Nat) (d':Bool),q≤L.length∧Y'≤Y∧(e=0→T'=T+1)∧
 aA Tryz.prog 177 [.ref 0 0 0 0,sR (Y,T,F),.lit (.int .i64 1)] [some (bt L p d)] (.tup [sR (Y',T',F),.lit (.int .i64 e)]) [some (bt L q d')]:=by
 obtain ⟨b,e,q,d',h,hb,hq,-⟩:=Ph (Y:=Y) d hL hp hY
 by_cases he:e=0
 · subst he
   refine⟨0,b,T+1,q,d',hq,hb,fun _=>rfl,?_⟩;have ht:(((T+1:Nat)):Int)=(T:Int)+1:=by omega
   refine zF pl Tryz.call177 Tryz.func177 [.cell 6 131,.tmp 7] fun Q hQ=>?_;simp only[sR,ht] at hQ;refine ae ?_
   refine aR (X:=Nat×Nat×Nat×Nat×Bool) (st:=fun z=>([(0,.ref 0 0 0 0),(4,.ref 1 0 0 0),(6,.ref 2 0 0 0),(11,.lit (.int .i64 1)),(12,.lit (.int .i64 (z.1:Int)))],[some (bt L z.2.2.2.1 z.2.2.2.2),some (.cells [.lit (.int .i64 (z.2.1:Int)),.lit (.int .i64 (z.2.2.1:Int)),.lit (.bool F)]),some (.cells [.lit (.int .i64 0),.lit (.int .i64 0),.lit (.bool false)])]))
    (inv:=fun z=>z=(0,Y,T,p,d)∨z=(1,b,T+1,q,d')) (m:=fun z=>1-z.1) (0,Y,T,p,d) [some 0,some 1,some 2] (.inl rfl) ?_
   rintro z (rfl | rfl)
   · refine ae ?_
     refine zW [some 0] [] h ?_;refine aM (1,b,T+1,q,d') [some 0,some 1,some 2] (.inr rfl) zo
   · refine ae ?_
     skip
     exact ak [some 0] hQ
 · refine⟨e,Y,T,q,d',hq,ajp _,fun h=>absurd h he,?_⟩
   refine zF pl Tryz.call177 Tryz.func177 [.cell 6 131,.tmp 7] fun Q hQ=>?_;refine ae ?_
   refine aR (X:=Unit) (st:=fun z=>([(0,.ref 0 0 0 0),(4,.ref 1 0 0 0),(6,.ref 2 0 0 0),(11,.lit (.int .i64 1)),(12,.lit (.int .i64 0))],[some (bt L p d),some (.cells [.lit (.int .i64 (Y:Int)),.lit (.int .i64 (T:Int)),.lit (.bool F)]),some (.cells [.lit (.int .i64 0),.lit (.int .i64 0),.lit (.bool false)])]))
    (inv:=fun z=>True) (m:=fun z=>0) () [some 0,some 1,some 2] trivial ?_
   rintro ⟨⟩-;refine ae ?_;refine zW [some 0] [] h ?_;exact ak [some 0] hQ
abbrev TS:=(Nat×Nat×Bool)×Nat×Bool
def okD (L:List Bool) (b:Nat) (x:TS):Prop:=x.1.1≤1000∧x.1.2.1≤b∧(x.1.2.2=true→x.1.2.1=b)∧x.2.1≤L.length
def mg (G:TS→Int×TS) (a b:Nat):Nat→TS→Int×TS
 | 0,x=>(0,x)
 | n+1,x=>if x.1.1≤a then(0,x) else if x.1.2.1=b then(0,(a,b,true),x.2) else if (G x).1≠0 then((G x).1,x.1,(G x).2.2) else mg G a b n (G x).2
theorem sB {G:TS→Int×TS} {a b n:Nat} {x:TS}:mg G a b (n+1) x=if x.1.1≤a then(0,x) else if x.1.2.1=b then(0,(a,b,true),x.2) else if (G x).1≠0 then((G x).1,x.1,(G x).2.2) else mg G a b n (G x).2:=rfl
theorem xw {L:List Bool} {G:TS→Int×TS} {a b:Nat} (ha:a≤1000) (hG:∀x,okD L b x→x.1.2.1<b→(G x).2.2.1≤L.length∧((G x).1=0→okD L b (G x).2∧(G x).2.1.2.1=x.1.2.1+1)):
 ∀n x,okD L b x→b-x.1.2.1<n→(mg G a b n x).2.2.1≤L.length∧((mg G a b n x).1=0→okD L b (mg G a b n x).2∧(mg G a b n x).2.1.1≤a)
 | 0,x,h,hn=>by omega
 | n+1,x,h,hn=>by
   rw[sB]
   split
   · rename_i h1
     exact⟨h.2.2.2,fun _=>⟨h,h1⟩⟩
   · split
     · exact⟨h.2.2.2,fun _=>⟨⟨ha,ajp _,fun _=>rfl,h.2.2.2⟩,ajp _⟩⟩
     · rename_i h1 h2
       have h3:x.1.2.1<b:=by have:=h.2.1;omega
       obtain ⟨g1,g2⟩:=hG x h h3
       split
       · rename_i h4
         exact⟨g1,fun h=>absurd h h4⟩
       · rename_i h4
         obtain ⟨g3,g4⟩:=g2 (Classical.not_not.1 h4);exact xw ha hG n _ g3 zo
theorem Mo {L:List Bool} {a b:Nat} (hL:L.length≤1048576) (ha:a≤1000) (hb:b≤100) (x:TS) (hx:okD L b x):∃y:Int×TS,y.2.2.1≤L.length∧(y.1=0→okD L b y.2∧y.2.1.1≤a)∧
 aA Tryz.prog 159 [.agg [.lit (.int .i64 (a:Int)),.lit (.int .i64 (b:Int))],.ref 0 0 0 0,sR x.1] [some (bt L x.2.1 x.2.2)] (.tup [sR y.2.1,.lit (.int .i64 y.1)]) [some (bt L y.2.2.1 y.2.2.2)]:=by
 obtain ⟨G,hG⟩:=Classical.skolem.1 fun x=>show∃y:Int×TS,okD L b x→x.1.2.1<b→y.2.2.1≤L.length∧(y.1=0→okD L b y.2∧y.2.1.2.1=x.1.2.1+1)∧
  aA Tryz.prog 177 [.ref 0 0 0 0,sR x.1,.lit (.int .i64 1)] [some (bt L x.2.1 x.2.2)] (.tup [sR y.2.1,.lit (.int .i64 y.1)]) [some (bt L y.2.2.1 y.2.2.2)] from by
  obtain ⟨⟨Y,T,F⟩,p,d⟩:=x
  by_cases h:okD L b ((Y,T,F),p,d)∧T<b
  · obtain ⟨⟨h1,h2,h3,h4⟩,h5⟩:=h
    dsimp only at h1 h2 h3 h4 h5;obtain ⟨e,Y',T',q,d',g1,g2,g3,g4⟩:=z6 (Y:=Y) (T:=T) (F:=F) (d:=d) hL h4 h1 zo;refine⟨(e,(Y',T',F),q,d'),fun _ _=>⟨g1,fun he=>⟨⟨?_,?_,?_,g1⟩,g3 he⟩,g4⟩⟩
    · dsimp only;omega
    · dsimp only;rw[g3 he];omega
    · intro hF
      have:=h3 hF
      omega
  · exact⟨(0,(Y,T,F),p,d),fun h1 h2=>absurd ⟨h1,h2⟩ h⟩
 obtain ⟨k1,k2⟩:=xw (a:=a) ha (fun x h1 h2=>⟨(hG x h1 h2).1,(hG x h1 h2).2.1⟩) (b-x.1.2.1+1) x hx (Nat.lt_succ_self _);refine⟨mg G a b (b-x.1.2.1+1) x,k1,k2,?_⟩;obtain ⟨⟨Y,T,F⟩,p,d⟩:=x;dsimp only;generalize hN:b-T+1=N;refine zF pl Tryz.call159 Tryz.func159 [.cell 6 131,.tmp 7] fun Q hQ=>?_;refine ae ?_
 refine aR (X:=Nat×TS) (st:=fun z=>([(3,.ref 1 0 0 0),(1,.ref 0 0 0 0),(5,.ref 2 0 0 0),(6,.ref 3 0 0 0)],[some (bt L z.2.2.1 z.2.2.2),some (.cells [.lit (.int .i64 (a:Int)),.lit (.int .i64 (b:Int))]),some (.cells [.lit (.int .i64 (z.2.1.1:Int)),.lit (.int .i64 (z.2.1.2.1:Int)),.lit (.bool z.2.1.2.2)]),some (.cells [.lit (.int .i64 0),.lit (.int .i64 0),.lit (.bool false)])]))
  (inv:=fun z=>okD L b z.2∧b-z.2.1.2.1<z.1∧mg G a b N ((Y,T,F),p,d)=mg G a b z.1 z.2) (m:=fun z=>z.1) (N,(Y,T,F),p,d) [some 0,some 1,some 2,some 3] ⟨hx,by dsimp only;omega,rfl⟩ ?_
 rintro ⟨n,⟨Y1,T1,F1⟩,p1,d1⟩ ⟨hz,hn,hv⟩;dsimp only at hz hn hv ⊢;obtain ⟨r,rfl⟩:∃r,n=r+1:=⟨n-1,by omega⟩;rw[sB (n:=r)] at hv;have g:=hG ((Y1,T1,F1),p1,d1) hz;obtain ⟨z1,z2,z3,z4⟩:=hz;dsimp only at z1 z2 z3 z4 hv g
 by_cases h1:Y1≤a
 · rw[if_pos h1] at hv
   rw[hv] at hQ;exact zE [some 0] hQ
 · rw[if_neg h1] at hv
   by_cases h2:T1=b
   · rw[if_pos h2] at hv
     rw[hv] at hQ;subst h2;exact zE [some 0] hQ
   · rw[if_neg h2] at hv
     generalize G ((Y1,T1,F1),p1,d1)=gx at g hv;obtain ⟨E,⟨Y2,T2,F2⟩,p2,d2⟩:=gx;obtain ⟨g1,g2,g3⟩:=g zo;dsimp only at g1 g2 g3 hv
     by_cases hE:E=0
     · subst hE
       rw[if_neg (by simp)] at hv;obtain ⟨g4,g5⟩:=g2 rfl;refine ae ?_;refine zW [some 0] [] g3 ?_;refine aM (r,(Y2,T2,F2),p2,d2) [some 0,some 1,some 2,some 3] ⟨g4,by dsimp only;omega,hv⟩ zo
     · rw[if_pos hE] at hv
       rw[hv] at hQ;refine ae ?_;refine zW [some 0] [] g3 ?_;exact ak [some 0] hQ
theorem Pt {P:SP} {i f:Nat} {st:SS} {c:Cell} (h:c.1≤P.m):gy P i (f+1) st c=.ret (st.1.set i (gH c),st.2):=by rw[gy.eq_2,if_pos h]
theorem PF {P:SP} {L:List Bool} {i f p:Nat} {st:SS} {c:Cell} (h:¬c.1≤P.m) (h2:c.2<P.d):(gy P i (f+1) st c).run L p=match (fc c.1 st.2.1).run L p with | some (n,q)=>(gy P i f st (n,c.2+1)).run L q | none=>none:=by
 rw[gy.eq_2,if_neg h,if_pos h2,run_bind,Ct]
 cases (fc c.1 st.2.1).run L p with
 | none=>rfl
 | some x=>rfl
theorem QE {P:SP} {L:List Bool} {i f p:Nat} {st:SS} {c:Cell} (h:¬c.1≤P.m) (h2:¬c.2<P.d) (h3:st.2.1<P.s):(gy P i (f+1) st c).run L p=match (jc P st.2.1 i st.1 0 c).run L p with | some (r,q)=>(gy P i f (r.1,st.2.1+1,st.2.2) r.2).run L q | none=>none:=by
 rw[gy.eq_2,if_neg h,if_neg h2,if_pos h3,run_bind]
 cases (jc P st.2.1 i st.1 0 c).run L p with
 | none=>rfl
 | some x=>rfl
theorem Jd {P:SP} {i f:Nat} {st:SS} {c:Cell} (h:¬c.1≤P.m) (h2:¬c.2<P.d) (h3:¬st.2.1<P.s):gy P i (f+1) st c=.ret (st.1.set i (gH (P.m,c.2)),st.2.1,true):=by rw[gy.eq_2,if_neg h,if_neg h2,if_neg h3]
set_option maxHeartbeats 4000000 in
theorem LB {M D S p i F:Nat} {st:SS} {d:Bool} {L:List Bool} {c:Cell} (hw:WB M D S) (hL:L.length≤1048576) (hp:p≤L.length) (hd:d=true→p=L.length) (hn:st.1.length≤256) (hi:i<st.1.length)
 (hs:SOk (cR M D S) st) (hc:c.1≤16777216) (hc2:c.2≤(cR M D S).d) (hF:need (cR M D S) st.2.1 c.2≤F):
 FnR Tryz.prog 75 [.ref 0 0 0 0,.ref 1 0 0 0,.lit (.int .i64 (i:Int)),cA c] (W3 M D S st.1.length st.1 st.2.1 st.2.2 L p d)
 (Lt L d ((gy (cR M D S) i F st c).run L p)) (fun x=>.lit (.int .i64 x.2.1)) (fun x=>W3 M D S st.1.length x.1.1 x.1.2.1 x.1.2.2 L x.2.2.1 x.2.2.2):=by
 have ht:=sK (M:=M) (D:=D) (S:=S) (by have:=hw.m8;omega) (by have:=hw.d2;omega);have hpw:=hw.pw;have hd3:=hpw.d3;have hm255:=hpw.m255;rw[show 2^M-1=(cR M D S).m from rfl,show 2^D-1=(cR M D S).d from rfl] at ht;have hre:=fun(cs:List Cell) (s p':Nat) (f:Bool) (own:Cell) (h1:p'≤L.length) (h2:d=true→p'=L.length) (h3:s≤4) (h4:cs.length≤256) (h5:∀c∈cs,ze (cR M D S) c) (h6:own.1≤16777216∧own.2≤3)=>yK (M:=M) (D:=D) (S:=S) (s:=s) (p:=p') (cs:=cs) (f:=f) (d:=d) (L:=L) (i:=(i:Int)) (own:=own) hw hL h1 h2 h3 h4 h5 h6;have hPs:(cR M D S).s=S:=rfl;have hw4:=hw.s4;generalize hP:cR M D S=P at*
 generalize hn0:st.1.length=n at*
 refine CN Zw zk Tryz.call75 Tryz.func75 rfl zk rfl [.tmp 8] zk fun Q hQ=>?_;refine ae ?_;refine zC ht ?_
 refine aR (X:=Nat×SS×Cell×Nat) (st:=fun y=>([(0,.ref 0 0 0 0),(1,.ref 1 0 0 0),(2,.lit (.int .i64 (i:Int))),(7,.ref 3 0 0 0),(9,.lit (.int .i64 (P.m:Int))),(10,.lit (.int .i64 (P.d:Int)))],
  W3 M D S n y.2.1.1 y.2.1.2.1 y.2.1.2.2 L y.2.2.2 d++[some (.cells [.lit (.int .i64 (y.2.2.1.1:Int)),.lit (.int .i64 (y.2.2.1.2:Int))])]))
  (inv:=fun y=>y.2.1.1.length=n∧y.2.2.2≤L.length∧(d=true→y.2.2.2=L.length)∧SOk P y.2.1∧y.2.2.1.1≤16777216∧y.2.2.1.2≤P.d∧need P y.2.1.2.1 y.2.2.1.2≤y.1∧
   (gy P i F st c).run L p=(gy P i y.1 y.2.1 y.2.2.1).run L y.2.2.2)
  (m:=fun y=>y.1) (F,st,c,p) [some 0,some 1,some 2,some 3] ⟨hn0,hp,hd,hs,hc,hc2,hF,rfl⟩ ?_
 rintro ⟨f,st',o,q⟩ ⟨hlen,hq,hdq,hs',ho1,ho2,hf,hrun⟩;dsimp only at hlen hq hdq hs' ho1 ho2 hf hrun ⊢;obtain ⟨g,rfl⟩:∃g,f=g+1:=⟨f-1,by unfold need at hf;omega⟩;obtain ⟨cs,s,fu⟩:=st';have hss1:=hs'.s1;have hss2:=hs'.s2;have hsc:=hs'.c;dsimp only at hlen hss1 hss2 hsc hf hrun ⊢;have hput:=fun(z:Cell) (fu:Bool)=>Dc (M:=M) (D:=D) (S:=S) (cs:=cs) (s:=s) (i:=i) (f:=fu) (c:=z) zo zo;rw[hlen] at hput
 by_cases h1:o.1≤P.m
 · rw[Pt h1] at hrun
   have hrun2:(gy P i F st c).run L p=some ((cs.set i (gH o),s,fu),q):=hrun;rw[hrun2] at hQ;have hp2:=hput o fu;refine ae ?_;refine zW [some 0,some 2] [] hp2 ?_;exact ak [some 0,some 1,some 2] (hQ ((cs.set i (gH o),s,fu),0,q,d) rfl)
 · by_cases h2:o.2<P.d
   · rw[PF h1 h2] at hrun
     have hup:=It (M:=M) (D:=D) (S:=S) (n:=n) (cs:=cs) (s:=s) (p:=q) (f:=fu) (d:=d) (L:=L) (c:=o) hL hq hdq zo zo zo;dsimp only at hrun
     cases h3:(fc o.1 s).run L q with
     | none=>
       rw[h3] at hrun;dsimp only at hrun;rw[jh h3] at hup;rw[hrun] at hQ;refine ae ?_;refine zW [some 0,some 1,some 2] [] hup ?_;exact ak [some 0,some 1,some 2] (hQ ((cs,s,fu),8,L.length,true) rfl)
     | some r=>
       obtain ⟨n1,q1⟩:=r;rw[h3] at hrun;dsimp only at hrun;have hnx:=hH hq hdq h3;have hnl:=uW h3;have hdv:o.1/2^s≤o.1/2:=mU hss1;rw[ja h3] at hup;refine ae ?_;refine zW [some 0,some 1,some 2] [] hup ?_;refine aM (g,(cs,s,fu),(n1,o.2+1),q1) [some 0,some 1,some 2,some 3] ⟨hlen,hnx.1,hnx.2,hs',by dsimp only;omega,by dsimp only;omega,by dsimp only;unfold need at hf ⊢;omega,hrun⟩ (by dsimp only;omega)
   · by_cases h3:s<P.s
     · rw[QE h1 h2 h3] at hrun
       have hr:=hre cs s q fu o hq hdq zo zo hsc ⟨ho1,by omega⟩;rw[hlen] at hr;have hall:=Dg hpw.toPB hss1 (i:Int) cs 0 o hsc (fun _=>⟨ho2,by omega⟩);have hlen2:=(vt P s (i:Int) cs 0 o).2.2.2;dsimp only at hrun;refine ae ?_;refine NZ [some 0,some 1,some 2] [] (hr) ?_;rintro ⟨⟨Y,o'⟩,e,q',d'⟩ hx;unfold Lt at hx
       cases h4:(jc P s (i:Int) cs 0 o).run L q with
       | none=>
         rw[h4] at hx hrun;dsimp only at hx hrun;rw[hrun] at hQ;simp only[Prod.mk.injEq] at hx;obtain ⟨rfl,rfl,rfl⟩:=hx;refine ae ?_;exact ak [some 0,some 1,some 2] (hQ ((Y,s+1,fu),8,L.length,true) rfl)
       | some r=>
         obtain ⟨⟨Y1,o1⟩,q1⟩:=r;rw[h4] at hx hrun;dsimp only at hx hrun;simp only[Prod.mk.injEq] at hx;obtain ⟨⟨rfl,rfl⟩,rfl,rfl,rfl⟩:=hx;have hnx:=hH hq hdq h4;obtain ⟨a1,a2⟩:=iT hall h4;have a3:=iT hlen2 h4;have a4:=a2 zo;dsimp only at a1 a3 a4
         have hnd:need P (s+1) o'.2≤g:=by
          unfold need at hf ⊢
          have:(P.s-s)*(P.d+2)=(P.s-(s+1))*(P.d+2)+(P.d+2):=by
           rw[show P.s-s=P.s-(s+1)+1 by omega,ajG,akH]
          omega
         refine ae ?_;refine aM (g,(Y,s+1,fu),o',q') [some 0,some 1,some 2,some 3] ⟨by dsimp only;omega,hnx.1,hnx.2,⟨a1,by dsimp only;omega,by dsimp only;omega,fun h=>by have:=hs'.f h;dsimp only at this;omega⟩,by dsimp only;omega,a4.1,hnd,hrun⟩ (by dsimp only;omega)
     · rw[Jd h1 h2 h3] at hrun
       have hrun2:(gy P i F st c).run L p=some ((cs.set i (gH (P.m,o.2)),s,true),q):=hrun;rw[hrun2] at hQ;have hp2:=hput (P.m,o.2) true;refine ae ?_;refine zW [some 0,some 2] [] hp2 ?_;exact ak [some 0,some 1,some 2] (hQ ((cs.set i (gH (P.m,o.2)),s,true),0,q,d) rfl)
end Go.Proofs.YtcnlmelpnflhnaaGreat
