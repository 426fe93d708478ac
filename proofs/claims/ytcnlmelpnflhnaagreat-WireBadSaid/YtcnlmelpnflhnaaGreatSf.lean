import Derived.Test.YtcnlmelpnflhnaaGreatFb
import Derived.Test.YtcnlmelpnflhnaaGreatE6
import Derived.Test.YtcnlmelpnflhnaaGreatPk
namespace Go.Proofs.YtcnlmelpnflhnaaGreat
open Go.Eng
set_option linter.unusedSimpArgs false
set_option linter.unusedVariables false
structure PB (P:SP):Prop where
 m1:1≤P.m
 m2:P.m≤65535
 d1:1≤P.d
 d2:P.d≤15
 s1:1≤P.s
 s2:P.s≤8
def zK (P:SP) (c:Cell):Prop:=c.1≤P.m∧c.2≤P.d∧(c.1=0→c.2=0)
structure SOk (P:SP) (st:SS):Prop where
 c:∀c∈st.1,zK P c
 s1:1≤st.2.1
 s2:st.2.1≤P.s
 f:st.2.2=true→st.2.1=P.s
theorem SC (b:Bool):bit b≤1:=by cases b<;>decide
theorem sW (n k:Nat):(fq n k).all (fun a=>a≤n/2^k+1∧(n%2^k=0→a=n/2^k)∧n/2^k≤a):=by
 unfold fq
 by_cases h:n%2^k=0
 · rw[if_pos h]
   exact⟨Nat.le_succ _,fun _=>rfl,akk _⟩
 · rw[if_neg h,all_bind]
   refine all_true fun b=>⟨?_,fun e=>absurd e h,?_⟩
   · have:=SC b
     show n/2^k+bit b≤_;omega
   · exact alz _ _
theorem k8 {P:SP} {v s:Nat}:∀{f m:Nat},f+m=P.d→bu P v s f m≤P.d∧m≤bu P v s f m∧(bu P v s f m<P.d→v/2^(s*bu P v s f m)≤P.m)∧(∀j,m≤j→v/2^(s*j)≤P.m→bu P v s f m≤j):=by
 intro f
 induction f with
 | zero=>
   intro m h;unfold bu;exact⟨by omega,akk _,fun h2=>by omega,fun j hj _=>hj⟩
 | succ f ih=>
   intro m h;unfold bu
   by_cases hc:m<P.d∧P.m<v/2^(s*m)
   · rw[if_pos hc]
     obtain ⟨a,b,c,d⟩:=ih (m:=m+1) zo;refine⟨a,by omega,c,fun j hj hv=>d j ?_ hv⟩
     by_cases e:j=m
     · subst e;omega
     · omega
   · rw[if_neg hc]
     refine⟨by omega,akk _,fun h2=>?_,fun j hj _=>hj⟩
     by_cases h3:P.m<v/2^(s*m)
     · exact absurd ⟨h2,h3⟩ hc
     · omega
theorem MS (c:Cell) (w:Nat):iN c w/2^((w+1)*c.2)=c.1/2^c.2:=by
 unfold iN;rw[akA,alG,ale,←alm,Nat.mul_div_cancel _ (akN zd)]
theorem AA (c:Cell) {w m:Nat} (h:c.2≤m):iN c w/2^((w+1)*m)≤c.1/2^m:=by
 unfold iN;rw[show(w+1)*m=w*c.2+(w*(m-c.2)+m) by rw[akA,alG,Nat.mul_sub];have:=alg w h;omega];rw[ale,←alm,Nat.mul_div_cancel _ (akN zd),ale];have h1:0<2^(w*(m-c.2)):=akN zd;have h2:0<2^m:=akN zd;rw[←alm];exact Nat.div_le_div_right (alq _ _)
theorem Dg {P:SP} {v s:Nat}:(GQ P v s).all (fun c=>c.2=bu P v s P.d 0∧c.1≤v/2^(s*bu P v s P.d 0)+1∧(v%2^(s*bu P v s P.d 0)=0→c.1=v/2^(s*bu P v s P.d 0))):=by
 unfold GQ;rw[all_bind];exact bO (fun a h=>⟨rfl,h.1,h.2.1⟩) (sW _ _)
theorem CQ (c:Cell) (s:Nat):(Hc c s).all (fun x=>x.2=c.2+1∧x.1≤c.1/2^s+1):=by
 unfold Hc;rw[all_bind];exact bO (fun a h=>⟨rfl,h.1⟩) (sW _ _)
theorem nb {a k:Nat} (hk:1≤k):a/2^k≤a/2:=by
 obtain ⟨j,rfl⟩:∃j,k=j+1:=⟨k-1,by omega⟩;rw[akM,akC,←alm];exact alq _ _
theorem y9 {a k:Nat} (hk:2≤k):a/2^k≤a/4:=by
 obtain ⟨j,rfl⟩:∃j,k=j+2:=⟨k-2,by omega⟩;rw[show 2^(j+2)=4*2^j by rw[ale];omega,←alm];exact alq _ _
theorem H3 {P:SP} {c:Cell} {w:Nat} (hc:c.1≤P.m) (hd:c.2≤P.d):bu P (iN c w) (w+1) P.d 0≤c.2∧iN c w/2^((w+1)*bu P (iN c w) (w+1) P.d 0)≤P.m∧
 (bu P (iN c w) (w+1) P.d 0=c.2→iN c w/2^((w+1)*bu P (iN c w) (w+1) P.d 0)=c.1/2^c.2):=by
 obtain ⟨a,-,b,d⟩:=k8 (P:=P) (v:=iN c w) (s:=w+1) (f:=P.d) (m:=0) zo;have e:=MS c w;have h1:c.1/2^c.2≤P.m:=akE (alq _ _) hc;have h2:=d c.2 (akF _) (by rw[e];exact h1);generalize bu P (iN c w) (w+1) P.d 0=r at*
 refine⟨h2,?_,fun hr=>by rw[hr];exact e⟩
 by_cases hr:r<P.d
 · exact b hr
 · rw[show r=c.2 by omega,e];exact h1
theorem Db {P:SP} (hP:PB P) {c:Cell} {w:Nat} (hw:1≤w) (hc:zK P c):(MG P w c).all (fun x=>x.1≤P.m∧x.2≤P.d):=by
 obtain ⟨h1,h2,-⟩:=hc;obtain ⟨a,b,e⟩:=H3 (w:=w) h1 h2;have hm:=hP.m1;unfold MG;rw[all_bind];refine bO (fun x hx=>?_) Dg;obtain ⟨x1,x2,x3⟩:=hx;generalize bu P (iN c w) (w+1) P.d 0=r at*
 by_cases hx:P.m<x.1
 · rw[if_pos hx]
   have hr:r<c.2:=by
    by_cases hr:r<c.2
    · exact hr
    · exfalso
      have hrc:r=c.2:=by omega
      have e2:=e hrc;rw[e2] at x2 x3
      by_cases h0:c.2=0
      · rw[h0] at x3 hrc
        subst hrc;rw[amB,amO,Nat.mod_one,Nat.div_one] at x3
        have:=x3 rfl
        omega
      · have:=nb (a:=c.1) (k:=c.2) zo
        omega
   refine bO (fun y hy=>?_) (CQ x (w+1))
   have:=y9 (a:=x.1) (k:=w+1) zo
   exact⟨by omega,by omega⟩
 · rw[if_neg hx]
   exact⟨by omega,by omega⟩
theorem qz {P:SP} {c:Cell} (h1:c.1≤P.m) (h2:c.2≤P.d):zK P (gS c):=by
 unfold gS zK
 split
 · exact⟨h1,by simp,fun _=>rfl⟩
 · rename_i h
   exact⟨h1,h2,fun e=>absurd e h⟩
theorem R7 {P:SP} (hP:PB P) {own:Cell} {w:Nat} (hd:own.2≤P.d) (hm:P.m<own.1):(GQ P (iN own w) (w+1)).all (fun o=>o.2≤P.d∧o.1≤own.1):=by
 obtain ⟨a,-,b,d⟩:=k8 (P:=P) (v:=iN own w) (s:=w+1) (f:=P.d) (m:=0) zo;have hm1:=hP.m1;have hd1:=hP.d1;refine bO (fun x hx=>?_) Dg;obtain ⟨x1,x2,x3⟩:=hx;generalize bu P (iN own w) (w+1) P.d 0=r at*
 refine⟨by omega,?_⟩
 by_cases hr:r<P.d
 · have:=b hr
   omega
 · have h3:=AA own (w:=w) (m:=r) zo
   have h4:=nb (a:=own.1) (k:=r) zo;omega
theorem DX {P:SP} (hP:PB P) {w:Nat} (hw:1≤w) (i:Int):∀(cs:List Cell) (k:Nat) (own:Cell),(∀c∈cs,zK P c)→(0≤i→own.2≤P.d∧P.m<own.1)→
 (jl P w i cs k own).all (fun r=>(∀c∈r.1,zK P c)∧(0≤i→r.2.2≤P.d∧r.2.1≤own.1)):=by
 intro cs
 induction cs with
 | nil=>intro k own _ h;exact⟨by simp,fun hi=>⟨(h hi).1,akk _⟩⟩
 | cons c cs ih=>
   intro k own hcs hown;unfold jl
   by_cases hk:(k:Int)=i
   · rw[if_pos hk,all_bind]
     have hi:0≤i:=by omega
     refine bO (fun o ho=>?_) (R7 hP (w:=w) (hown hi).1 (hown hi).2);rw[all_bind];have hc0:=hcs c (by simp);have hst:=(vT P w i cs (k+1) o).2.2.1 (fun j hj=>by omega)
     have hce:∀(cs:List Cell) (k:Nat) (own:Cell),(∀c∈cs,zK P c)→((i:Int)<k)→(jl P w i cs k own).all (fun r=>∀c∈r.1,zK P c):=by
      intro cs
      induction cs with
      | nil=>intro k own _ _;exact by simp[jl,DT.all]
      | cons c cs ih2=>
        intro k own hcs hik;unfold jl;rw[if_neg zo,all_bind];refine bO (fun c1 h1=>?_) (Db hP hw (hcs c (by simp)));rw[all_bind];refine bO (fun r hr=>?_) (ih2 (k+1) own (fun x hx=>hcs x (by simp[hx])) zo);intro x hx;rcases aky.1 hx with e | e
        · rw[e];exact qz h1.1 h1.2
        · exact hr x e
     refine bO (fun r hr=>?_) (vM hst (hce cs (k+1) o (fun x hx=>hcs x (by simp[hx])) zo));refine⟨fun x hx=>?_,fun _=>?_⟩
     · rcases aky.1 hx with e | e
       · rw[e];exact hc0
       · exact hr.2 x e
     · show r.2.2≤_∧r.2.1≤_
       rw[hr.1];exact ho
   · rw[if_neg hk,all_bind]
     refine bO (fun c1 h1=>?_) (Db hP hw (hcs c (by simp)));rw[all_bind];refine bO (fun r hr=>?_) (ih (k+1) own (fun x hx=>hcs x (by simp[hx])) hown);refine⟨fun x hx=>?_,hr.2⟩;rcases aky.1 hx with e | e
     · rw[e];exact qz h1.1 h1.2
     · exact hr.1 x e
def need (P:SP) (s m:Nat):Nat:=(P.s-s)*(P.d+2)+(P.d-m)+1
theorem zy {l:List Cell} {i:Nat} {c x:Cell} (h:x∈l.set i c):x=c∨x∈l:=by
 rcases amb h with h | h
 · exact .inr h
 · exact .inl h
theorem Ho {P:SP} (hP:PB P) (i:Nat):∀(f:Nat) (st:SS) (c:Cell),SOk P st→c.2≤P.d→need P st.2.1 c.2≤f→
 (gK P i f st c).all (fun r=>SOk P r∧st.2.1≤r.2.1∧(st.2.2=true→r.2.2=true)):=by
 intro f
 induction f with
 | zero=>intro st c _ _ h;unfold need at h;omega
 | succ f ih=>
   intro st c hs hc hf;unfold need at hf;unfold gK
   by_cases h1:c.1≤P.m
   · rw[if_pos h1]
     refine⟨⟨fun x hx=>?_,hs.s1,hs.s2,hs.f⟩,akk _,fun h=>h⟩;rcases zy hx with e | e
     · rw[e];exact qz h1 hc
     · exact hs.c x e
   · rw[if_neg h1]
     by_cases h2:c.2<P.d
     · rw[if_pos h2,all_bind]
       refine bO (fun c1 h=>ih st c1 hs zo ?_) (CQ c st.2.1);unfold need;omega
     · rw[if_neg h2]
       by_cases h3:st.2.1<P.s
       · rw[if_pos h3,all_bind]
         refine bO (fun r hr=>?_) (DX hP hs.s1 i st.1 0 c hs.c (fun _=>⟨hc,by omega⟩));have hr2:=hr.2 zo
         have hn:need P (st.2.1+1) r.2.2≤f:=by
          unfold need
          have:(P.s-st.2.1)*(P.d+2)=(P.s-(st.2.1+1))*(P.d+2)+(P.d+2):=by
           rw[show P.s-st.2.1=P.s-(st.2.1+1)+1 by omega,akA,alG]
          omega
         refine bO (fun q hq=>⟨hq.1,?_,hq.2.2⟩) (ih (r.1,st.2.1+1,st.2.2) r.2 ⟨hr.1,Nat.le_succ_of_le hs.s1,h3,fun h=>?_⟩ hr2.1 hn)
         · have:=hq.2.1
           simp only[] at this;omega
         · have:=hs.f h
           omega
       · rw[if_neg h3]
         refine⟨⟨fun x hx=>?_,hs.s1,hs.s2,fun _=>by have:=hs.s2;simp only[] at*;omega⟩,akk _,fun _=>rfl⟩;rcases zy hx with e | e
         · rw[e];exact qz (akk _) hc
         · exact hs.c x e
theorem Dq (P:SP) (s m:Nat):need P s m≤q9 P s m:=by unfold need q9;omega
theorem Da {P:SP} {l:List Cell} (h:∀c∈l,zK P c) (i:Nat):zK P (l.getD i (0,0)):=by
 rw[akf]
 cases e:l[i]? with
 | none=>exact⟨akF _,akF _,fun _=>rfl⟩
 | some c=>exact h c (ak5 e)
theorem Iy {P:SP} (hP:PB P) (st:SS) (i n:Nat) (hs:SOk P st):(tN P st i n).all (fun r=>SOk P r∧st.2.1≤r.2.1∧(st.2.2=true→r.2.2=true)):=by
 unfold tN;rw[all_bind];have h2:=(Da hs.c i).2.1;generalize st.1.getD i (0,0)=c0 at*
 exact all_true fun a=>Ho hP i _ st (c0.1+a,c0.2) hs h2 (Dq _ _ _)
end Go.Proofs.YtcnlmelpnflhnaaGreat

namespace Go.Vx
open Go.Eng
set_option linter.unusedSimpArgs false
set_option linter.unusedVariables false
theorem CA {α:Type} {l c:List α} {F:List α→Prop} (h:l.length=c.length):dm l 0 c F=F c:=by
 unfold dm;rw[if_pos zo,akP,←h,amA,alf,aln,ak7]
end Go.Vx
namespace Go.Proofs.YtcnlmelpnflhnaaGreat
open Go.Eng Go.Vx
set_option linter.unusedSimpArgs false
set_option linter.unusedVariables false
set_option maxRecDepth 100000
def ly (i:Nat):List V:=(mu i).map V.lit
theorem rA {i:Nat} (h:i≤256):(ly i).length=256:=by unfold ly;rw[aki,EE h]
theorem FM:ly 0=List.map V.lit (List.replicate 256 (.int .u32 0)):=by unfold ly;rw[z8]
theorem JF {i:Nat} (h:i<256):(ly i).set i (.lit (.int .u32 ((entry i:Nat):Int)))=ly (i+1):=by
 unfold ly;rw[←Eb h,amD]
 rfl
theorem Dw {m:Nat} {G:V→Prop} (h:m<256):mq (ly 256) m G=G (.lit (.int .u32 ((entry m:Nat):Int))):=by
 unfold mq ly;rw[akX,E5 h]
 rfl
theorem xq:∀C:List Value,lB.plnL (C.map V.lit)=true
 | []=>rfl
 | c::C=>by
   show(true&&lB.plnL (C.map V.lit))=true
   rw[xq C];rfl
theorem Nd {ok:Nat→Bool} {π:Pi} {σ:St} {i:Nat}:tH ok π σ (ly i) (ly i)=True:=eq_true (lD (xq _))
attribute [go_sem ↓] Nd
theorem JZ:aA Tryz.prog 176 [] [] (.agg (ly 256)) []:=by
 refine zF pl Tryz.call176 Tryz.func176 [.cell 0 274] fun Q hQ=>?_;refine ae ?_;rw[←FM]
 refine aU (X:=Nat) (st:=fun i=>([(0,.ref 0 0 0 0),(1,.ref 1 0 0 0),(5,.I i)],[some (.cells (ly 0)),some (.cells (ly i))]))
  (inv:=fun i=>i≤256) (m:=fun i=>256-i) 0 [some 0,some 1] zo ?_
 intro i hi;have hl:=rA hi;have hl0:=rA (i:=0) zo
 by_cases h:i<256
 · refine ae ?_
   refine aW (X:=Nat) (st:=fun k=>([(0,.ref 0 0 0 0),(1,.ref 1 0 0 0),(2,.I i),(3,.lit (.int .u32 ((bX i k:Nat):Int))),(5,.I i),(10,.I k)],[some (.cells (ly 0)),some (.cells (ly i))]))
    (inv:=fun k=>k≤8) (m:=fun k=>8-k) 0 [some 0,some 1] rfl zM (by rw[show bX i 0=i from rfl];exact zM) zo ?_
   intro k hk;have hlt:=ig (c:=i) zo k
   by_cases h8:k<8
   · have hs:bX i (k+1)=iH (bX i k):=rfl
     generalize bX i k=c at*
     unfold iH at hs;have hcd:(c:Int)/2=((c/2:Nat):Int):=by omega
     have hx:bS .xor .u32 ((c/2:Nat):Int) 3988292384=((c/2^^^3988292384:Nat):Int):=wk (x:=c/2) (y:=3988292384) zo zd;have hm:(c:Int)%2=((c%2:Nat):Int):=by omega
     by_cases ho:c%2=1
     · rw[if_pos ho] at hs
       refine eo hcd hx ?_;refine aI (k+1) [some 0,some 1] rfl zM (by dsimp only;rw[hs];exact zM) zo zo
     · rw[if_neg ho] at hs
       refine eo hcd hx ?_;refine aI (k+1) [some 0,some 1] rfl zM (by dsimp only;rw[hs];exact zM) zo zo
   · obtain rfl:k=8:=by omega
     have hts:=JF h;rw[show bX i 8=entry i from rfl];refine eo @wK hts ?_;refine aR (i+1) [some 0,some 1] zo zo
 · obtain rfl:i=256:=by omega
   refine eo @NY @CA ?_;exact ai [] hQ
theorem o8 (y:Nat):IntKind.u8.wrap (y:Int)=((y%256:Nat):Int):=by
 unfold IntKind.wrap;have e:IntKind.u8.bits=8:=rfl;have e2:IntKind.u8.signed=false:=rfl;rw[e,e2]
 simp
theorem M9 {c b:Nat} (hc:c<4294967296) (hb:b<256):
 bS .xor .u8 ((c%256:Nat):Int) (b:Int)=((c%256^^^b:Nat):Int)∧c%256^^^b<256∧bS .xor .u32 ((entry (c%256^^^b):Nat):Int) ((c:Int)/256)=((ms c b:Nat):Int):=by
 have h1:(c:Int)%256=((c%256:Nat):Int):=by omega
 have h2:(c:Int)/256=((c/256:Nat):Int):=by omega
 have h3:c%256^^^b<256:=alC (n:=8) (akD _ zd) hb;refine⟨by rw[Je zo hb],h3,?_⟩;rw[h2,wk (Ij h3) zo]
 rfl
theorem Qo {c:Nat} (h:c<4294967296):bS .xor .u32 (if IntKind.u32.signed then-1 else IntKind.u32.max) (c:Int)=((4294967295-c:Nat):Int):=by
 have e:(if IntKind.u32.signed then(-1:Int) else IntKind.u32.max)=((4294967295:Nat):Int):=by decide
 rw[e,wk zo h,am6,←HQ h]
theorem MZ {l:List Nat} {s:Nat} (hl:∀x∈l,x<256) (hm:l.length<4294967296) (hs:s<4294967296):aA Tryz.prog 149 [.lit (.int .u32 s),.row 1 ((nl l).map (ie .u8))] [] (.lit (.int .u32 ((4294967295-iQ (4294967295-s) l:Nat):Int))) []:=by
 refine zF pl Tryz.call149 Tryz.func149 [.tmp 4] fun Q hQ=>?_;have hnl:=av l;have hl0:=rA (i:=256) zo;refine ae ?_;refine aC (JZ) rfl rfl ?_;have hns:=Qo hs;have h1c:bD (Value.int .u32 0)=true:=rfl;refine Oc @CA hns false_or h1c @Nl ?_
 refine aW (X:=Nat) (st:=fun i=>([(5,.ref 0 0 0 0),(6,.lit (.int .u32 ((iQ (4294967295-s) (l.take i):Nat):Int))),(12,.row 1 ((nl l).map (ie .u8))),(13,.I l.length),(14,.I i)],[some (.cells (ly 256))]))
  (inv:=fun i=>i≤l.length) (m:=fun i=>l.length-i) 0 [some 0] rfl zM (by rw[alf,show iQ (4294967295-s) []=4294967295-s from rfl];exact zM) zo ?_
 intro i hi;have hlt:=kj (l:=l.take i) (c:=4294967295-s) (fun x hx=>hl x (akt hx)) zo
 by_cases h:i<l.length
 · have hg:=bt l i
   have hb:=ke hl i;have hn:iQ (4294967295-s) (l.take (i+1))=ms (iQ (4294967295-s) (l.take i)) (l.getD i 0):=by rw[gE h,lg];rfl
   generalize iQ (4294967295-s) (l.take i)=c at*
   generalize l.getD i 0=b at*
   obtain ⟨m1,m2,m3⟩:=M9 (b:=b) hlt hb;have ha:=Dw (m:=c%256^^^b) (G:=fun v=>True) m2
   simp(maxSteps:=1000000) (disch:=(first | omega | (simp only[cS,aki,akj,true_and,and_true];(try omega);done) | fail)) only[go_sem,hg,o8,m1,Dw m2,m3,Int.reduceEq,Int.reduceToNat,Nat.reduceAdd,Nat.reduceMul,Nat.reduceEqDiff, ↓reduceIte]
   refine aI (i+1) [some 0] rfl zM (by dsimp only;rw[hn];exact zM) zo zo
 · have hns2:=Qo hlt
   obtain rfl:i=l.length:=by omega
   rw[akw] at*
   refine bg hns2 ?_;exact ai [] hQ
theorem K0 {l:List Nat} (hl:∀x∈l,x<256) (hm:l.length<4294967296):aA Tryz.prog 101 [.row 1 ((nl l).map (ie .u8))] [] (.lit (.int .u32 ((eZ l:Nat):Int))) []:=by
 refine zF pl Tryz.call101 Tryz.func101 [.tmp 2] fun Q hQ=>?_;have h0:=MZ (l:=l) (s:=0) hl hm zd;rw[Nat.sub_zero,show 4294967295-iQ 4294967295 l=eZ l from rfl] at h0;refine ae ?_;refine zC h0 ?_;exact ai [] hQ
theorem uI {B:List Int} (hB:B.length≤140737488355327):aA Tryz.prog 100 [.row 1 (B.map (ie .u8))] [] (.sl 0 1 0 B.length) [some (.row 1 (B.map (ie .u8)))]:=by
 refine zF pl Tryz.call100 Tryz.func100 [.tmp 2] fun Q hQ=>?_
 by_cases h:B=[]
 · subst h
   refine Ya ?_;refine jC ?_ ?_
   · refine ae ?_
     exact ai [none] hQ
   · refine ae ?_
     exact ai [some 1] hQ
 · have he:(B.map (ie .u8)).isEmpty=false:=by simp[h]
   refine bg he ?_;exact ai [some 1] hQ
theorem DN (s j:Nat) (hj:j<4):(fS s).getD j 0=s/2^(8*(3-j))%256:=by
 rcases (show j=0∨j=1∨j=2∨j=3 by omega) with rfl | rfl | rfl | rfl<;>simp[fS]
theorem wU {l:List Nat} (hl:∀x∈l,x<256) (hm:l.length<1000000):aA Tryz.prog 44 [.row 1 ((nl l).map (ie .u8))] [] (.row 1 ((nl (aT l)).map (ie .u8))) []:=by
 refine zF pl Tryz.call44 Tryz.func44 [.tmp 2] fun Q hQ=>?_;have hnl:=av l;refine ae ?_;refine zW [] [] (uI (B:=nl l) zo) ?_;refine zC (K0 hl zo) ?_;have hs:=qi l
 refine aW (X:=Nat) (st:=fun j=>([(3,.sl 0 1 0 (l.length+j)),(4,.I (3-(j:Int))),(5,.lit (.int .u32 ((eZ l:Nat):Int)))],[some (.row 1 ((nl (l++(fS (eZ l)).take j)).map (ie .u8)))]))
  (inv:=fun j=>j≤4) (m:=fun j=>4-j) 0 [some 0] rfl (by rw[alf,ak7];exact zM) zM zo ?_
 intro j hj;have hll:(nl (l++(fS (eZ l)).take j)).length=l.length+j:=by rw[av];simp[fS];omega
 by_cases h:j<4
 · have ht:nl (l++(fS (eZ l)).take (j+1))=nl (l++(fS (eZ l)).take j)++[((eZ l/2^(8*(3-j))%256:Nat):Int)]:=by
    rw[gE (by simp[fS];omega),DN _ _ h];simp[nl]
   have h83:((8:Int)*(3-(j:Int))).toNat=8*(3-j):=by omega
   have hdv:=hH (eZ l) (8*(3-j));generalize eZ l/2^(8*(3-j))=q at*
   refine qm h83 hdv @o8 ?_;refine aI (j+1) [some 2] rfl (by dsimp only;rw[ht];exact zM) zM zo zo
 · obtain rfl:j=4:=by omega
   have e:l++(fS (eZ l)).take 4=aT l:=rfl;rw[e] at*
   have hsl:=fj l;have hns:=av (aT l);exact zE [] hQ
theorem fR {A B:List Int} (hA:A.length≤1099511627776) (hB:B.length≤1099511627776):aA Tryz.prog 51 [.row 1 (A.map (ie .u8)),.row 1 (B.map (ie .u8))] [] (.lit (.bool (decide (A=B)))) []:=by
 refine zF ZR Tryz.call51 Tryz.func51 [.tmp 4] fun Q hQ=>?_
 by_cases hl:A.length=B.length
 · refine ae ?_
   refine aU (X:=Nat) (st:=fun i=>([(0,.row 1 (A.map (ie .u8))),(1,.row 1 (B.map (ie .u8))),(12,.I A.length),(13,.I i)],[]))
    (inv:=fun i=>i≤A.length∧A.take i=B.take i) (m:=fun i=>A.length-i) 0 [] ⟨by omega,by simp⟩ ?_
   rintro i ⟨hi,ht⟩
   by_cases h:i<A.length
   · have hs:=rY h (show i<B.length by omega)
     by_cases he:A.getD i 0=B.getD i 0
     · refine ae ?_
       refine aR (i+1) [] ⟨by omega,hs.2 ⟨ht,he⟩⟩ zo
     · refine ae ?_
       rw[akg (fun e=>he (by rw[e]))] at hQ;exact ai [] hQ
   · obtain rfl:i=A.length:=by omega
     rw[akw,hl,akw] at ht;rw[aks ht] at hQ;exact zE [] hQ
 · rw[akg (fun e=>hl (by rw[e]))] at hQ
   exact zE [] hQ
theorem Ds (l:List Nat) (n:Nat):(nl l).take n=nl (l.take n):=by simp[nl,amn]
theorem dH {l:List Nat} (hl:∀x∈l,x<256) (hm:l.length<1000000) (h4:4≤l.length) (h:aT (l.take (l.length-4))=l):aA Tryz.prog 46 [.row 1 ((nl l).map (ie .u8))] [] (.tup [.row 1 ((nl (l.take (l.length-4))).map (ie .u8)),.I 0]) []:=by
 refine zF pl Tryz.call46 Tryz.func46 [.tmp 2,.tmp 3] fun Q hQ=>?_;have hnl:=av l;have ht:((l.length:Int)-4).toNat=l.length-4:=by omega
 have htk:=Ds l (l.length-4);have hll:(l.take (l.length-4)).length=l.length-4:=by simp
 have hnt:=av (l.take (l.length-4));refine qm hnl ht htk ?_;refine aC (wU (l:=l.take (l.length-4)) (fun x hx=>hl x (akt hx)) zo) rfl rfl ?_;rw[h];refine ae ?_;refine aC (fR (A:=nl l) (B:=nl l) zo zo) rfl rfl ?_;rw[aks rfl];refine qm hnl ht htk ?_;refine zC (vi (B:=nl (l.take (l.length-4))) zo) ?_;exact ai [] hQ
theorem xA {l:List Nat} (hl:∀x∈l,x<256) (hm:l.length<1000000) (h4:4≤l.length) (h:aT (l.take (l.length-4))≠l):aA Tryz.prog 46 [.row 1 ((nl l).map (ie .u8))] [] (.tup [.lit (.slice none 0 0),.I 6]) []:=by
 refine zF pl Tryz.call46 Tryz.func46 [.tmp 2,.tmp 3] fun Q hQ=>?_;have hnl:=av l;have ht:((l.length:Int)-4).toNat=l.length-4:=by omega
 have htk:=Ds l (l.length-4);have hll:(l.take (l.length-4)).length=l.length-4:=by simp
 have hnt:=av (l.take (l.length-4));have hsl:=fj (l.take (l.length-4));have hns:=av (aT (l.take (l.length-4)));refine qm hnl ht htk ?_;refine zC (wU (l:=l.take (l.length-4)) (fun x hx=>hl x (akt hx)) zo) ?_;refine aC (fR (A:=nl (aT (l.take (l.length-4)))) (B:=nl l) zo zo) rfl rfl ?_;rw[akg (fun e=>h (mU.1 e))];exact zE [] hQ
end Go.Proofs.YtcnlmelpnflhnaaGreat
